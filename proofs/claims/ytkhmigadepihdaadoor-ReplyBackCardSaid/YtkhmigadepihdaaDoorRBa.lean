/- The proof library and the contracts that the law reaches: joined by a program. No condition. -/
import Derived.Test.YtkhmigadepihdaaDoorALd
import Derived.Deep.Slices
import Derived.WalkKit
import Derived.ProofKit
import Derived.OpenShut
import Derived.ShutString
import Derived.ChangeOld
import Derived.Below
import Derived.Carry
import Derived.Test.YtkhmigadepihdaaDoorRows
import Derived.Sort.Grow
import Derived.Test.YtkhmigadepihdaaDoorALc
import Derived.Lib.MapLaws
import Derived.Lib.Bytealg
import Derived.Shelf.Strings.Builder1
import Derived.Shelf.Strings.Builder2
import Derived.Shelf.Strings.OnBuilder
import Derived.Shelf.Strings.BuilderF
import Derived.Shelf.Strings.BuilderK
import Derived.Shelf.Strings.Search1
import Derived.Shelf.Strings.Search2
import Derived.Shelf.Strings.Search3
import Derived.Shelf.Strings.Count
import Derived.Shelf.LaysM
import Derived.Shelf.Strings.Shaped
import Derived.Shelf.Strings.Prefix
import Derived.Shelf.Strings.Split
import Derived.Shelf.Strings.SplitShaped
import Derived.Shelf.Unicode.Decode
import Derived.Shelf.Strings.RuneCount
import Derived.Shelf.Strings.Explode
import Derived.Shelf.Unicode.DecodeSlow
import Derived.Shelf.Unicode.DecodeAny
import Derived.Test.YtkhmigadepihdaaDoorProg
import Derived.Defers
import Derived.Recover
import Derived.JoinedOf
import Derived.Lib.LaidU8
import Derived.LaidMore
import Derived.SevenTiedAt
import Derived.Lay
import Derived.Test.YtkhmigadepihdaaDoorCards
import Derived.Test.YtkhmigadepihdaaDoorTie
namespace AL
open Go Go.RowKit
set_option linter.unusedVariables false
set_option linter.unusedSimpArgs false
abbrev Iw (w : World) (b : Nat) : Prop := b < w.heap.size
def Reads (P : Program) (t : TypeId) (α : Type) (row : α → Nat → SC) : Prop :=
  ∀ {H : Type} {enc : TypeId × Value → H} {w : World} {spare : Nat → Bool} {held : Bool} {fuel : Nat} {cs : List Value} {x : DataW H × List MemPlace},
    DataW.trod enc P w 0 spare held fuel t cs = some x → ∃ a : α, cs.length = P.cellsOf t ∧ ∀ (i : Nat) (v : Value), cs[i]? = some v → MS (Iw w) w (row a i) v
theorem InR_of_wf {k : IntKind} {n : Int} (h : (Lit.int k n).wf = true) : InR k n := by
  simpa [Lit.wf, InR] using h
theorem one_cell {cs : List Value} {u : Value} {p : Value → Prop} (h : cs = [u]) (hp : p u) : ∀ (i : Nat) (v : Value), cs[i]? = some v → p v := by
  intro i v hi
  subst h
  cases i with
  | zero => simp at hi; subst hi; exact hp
  | succ i => simp at hi
theorem Reads.int {P : Program} {t : TypeId} {k : IntKind} (ht : P.underlying t = some (.int k)) (hc : P.cellsOf t = 1) : Reads P t Int (fun n _ => .int k n) := by
  intro H enc w spare held fuel cs x h
  obtain ⟨n, rfl, _, hw⟩ := DataW.trod_int ht h
  exact ⟨n, by rw [hc]; rfl, one_cell rfl ⟨rfl, InR_of_wf hw⟩⟩
theorem Reads.bool {P : Program} {t : TypeId} (ht : P.underlying t = some .bool) (hc : P.cellsOf t = 1) : Reads P t Bool (fun b _ => .bool b) := by
  intro H enc w spare held fuel cs x h
  obtain ⟨n, rfl, _⟩ := DataW.trod_bool ht h
  exact ⟨n, by rw [hc]; rfl, one_cell rfl rfl⟩
theorem ba_bytes (s : ByteArray) : ba s.data.toList = s := by
  cases s; rfl
theorem Reads.str {P : Program} {t : TypeId} (ht : P.underlying t = some .string) (hc : P.cellsOf t = 1) : Reads P t Bytes (fun b _ => .str b) := by
  intro H enc w spare held fuel cs x h
  obtain ⟨s, rfl, _, hs⟩ := DataW.trod_string ht h
  exact ⟨s.data.toList, by rw [hc]; rfl, one_cell rfl ⟨by rw [ba_bytes], by simpa using hs⟩⟩
theorem cell_lt {w : World} {a : Addr} {v : Value} (h : w.cell? a = some v) : a.block < w.heap.size := by
  unfold World.cell? at h
  split at h
  · rename_i e
    exact (Array.getElem?_eq_some_iff.1 e).1
  · cases h
theorem Reads.slice {P : Program} {t e : TypeId} {α : Type} {row : α → Nat → SC} (d : α) (hr : Reads P e α row) (ht : P.underlying t = some (.slice e)) (hc : P.cellsOf t = 1) {k : Nat} (hk : P.cellsOf e = k) (h0 : 0 < k) :
    Reads P t (List α) (fun l _ => .sl k α d row l) := by
  intro H enc w spare held fuel cs x h
  rcases Go.Deep.open_slice ht h with ⟨rfl, _⟩ | ⟨a, len, cap, m, n, D, Pl, rfl, _, hl, hm, hmm, _, hx⟩
  · refine ⟨[], by rw [hc]; rfl, one_cell rfl ⟨none, 0, rfl, Nat.le_refl _, Nat.zero_le _, .inl ⟨rfl, fun _ => rfl⟩⟩⟩
  · have hlm : len ≤ m := by rw [hmm]; split <;> omega
    have hel : ∀ i, i < len → ∃ y : α, ∀ j, j < k → ∃ u, w.cell? ((a.add (i * k)).add j) = some u ∧ MS (Iw w) w (row y j) u := by
      intro i hi
      obtain ⟨cs', h1, h2⟩ := hx i (by omega)
      rw [hk] at h1
      obtain ⟨_, g2, g3⟩ := World.cells?_some h1
      obtain ⟨y, q1, q2⟩ := hr h2
      refine ⟨y, fun j hj => ?_⟩
      have : cs'[j]? = some cs'[j] := List.getElem?_eq_getElem (by omega)
      exact ⟨_, by rw [g3 j hj]; exact this, q2 j _ this⟩
    let f : Nat → α := fun i => if h : i < len then Classical.choose (hel i h) else d
    have hf : ∀ i, i < len → ∀ j, j < k → ∃ u, w.cell? ((a.add (i * k)).add j) = some u ∧ MS (Iw w) w (row (f i) j) u := by
      intro i hi
      have := Classical.choose_spec (hel i hi)
      simp only [f, dif_pos hi]
      exact this
    refine ⟨(List.range len).map f, by rw [hc]; rfl, one_cell rfl ?_⟩
    refine ⟨some a, cap, by simp, by simpa using hl, hm, ?_⟩
    by_cases hl0 : len = 0
    · subst hl0; exact .inl ⟨rfl, fun h => by cases h⟩
    · right
      obtain ⟨u, hu, _⟩ := hf 0 (by omega) 0 h0
      have hu0 : w.cell? a = some u := by simpa [Addr.add] using hu
      obtain ⟨b, off, spot⟩ := a
      have hspot : spot = none := World.cell?_spot hu0
      subst hspot
      refine ⟨b, off, rfl, cell_lt hu0, fun j x hx i hi => ?_⟩
      have hj : j < len := by
        have := (List.getElem?_eq_some_iff.1 hx).1
        simpa using this
      rw [List.getElem?_map, List.getElem?_range hj] at hx
      simp only [Option.map_some, Option.some.injEq] at hx
      subst hx
      obtain ⟨u', h1, h2⟩ := hf j hj i hi
      rw [add_mk, add_mk] at h1
      exact ⟨u', h1, h2⟩
def ReadsF (P : Program) (fl : List Field) (off : Nat) (α : Type) (row : α → Nat → SC) (n : Nat) : Prop :=
  ∀ {H : Type} {enc : TypeId × Value → H} {w : World} {spare : Nat → Bool} {held : Bool} {fuel : Nat} {cs : List Value}, (∀ f ∈ fl, ∃ x, DataW.trod enc P w 0 spare held fuel f.type ((cs.drop f.offset).take (P.cellsOf f.type)) = some x) →
    ∃ a : α, ∀ (i : Nat) (v : Value), i < n → cs[off + i]? = some v → MS (Iw w) w (row a i) v
theorem ReadsF.nil {P : Program} {off : Nat} : ReadsF P [] off Unit (fun _ _ => .any) 0 := by
  intro H enc w spare held fuel cs h
  exact ⟨(), fun i v hi => by omega⟩
theorem ReadsF.cons {P : Program} {f : Field} {fl : List Field} {off k n : Nat} {α β : Type} {row : α → Nat → SC} {row' : β → Nat → SC} (h : Reads P f.type α row) (hk : P.cellsOf f.type = k) (ho : f.offset = off) (hf : ReadsF P fl (off + k) β row' n) :
    ReadsF P (f :: fl) off (α × β) (fun x i => if i < k then row x.1 i else row' x.2 (i - k)) (k + n) := by
  intro H enc w spare held fuel cs hx
  obtain ⟨x, h1⟩ := hx f (List.mem_cons_self ..)
  obtain ⟨a, ha, hb⟩ := h h1
  obtain ⟨b, hb'⟩ := hf fun g hg => hx g (List.mem_cons_of_mem _ hg)
  refine ⟨(a, b), fun i v hi hv => ?_⟩
  by_cases hik : i < k
  · simp only [if_pos hik]
    refine hb i v ?_
    rw [List.getElem?_take_of_lt (by rw [hk]; exact hik), List.getElem?_drop, ho]
    exact hv
  · simp only [if_neg hik]
    refine hb' (i - k) v (by omega) ?_
    rw [show off + k + (i - k) = off + i by omega]
    exact hv
theorem Reads.struct {P : Program} {t : TypeId} {fs : Array Field} {α β : Type} {row : α → Nat → SC} {n : Nat} {row0 : β → Nat → SC} (ht : P.underlying t = some (.struct fs)) (hc : P.cellsOf t = n) (hf : ReadsF P fs.toList 0 α row n) (g : α → β)
    (hg : ∀ a i, i < n → row0 (g a) i = row a i) : Reads P t β row0 := by
  intro H enc w spare held fuel cs x h
  obtain ⟨xs, m, _, _, hl, hlen, hfs⟩ := DataW.trod_struct ht h
  obtain ⟨a, ha⟩ := hf (enc := enc) (w := w) (spare := spare) (held := held) (fuel := m) (cs := cs) fun f hf => by
    obtain ⟨i, hi⟩ := List.getElem?_of_mem hf
    have hi' : fs[i]? = some f := by simpa using hi
    have := hfs i f hi'
    have hlt : i < xs.length := by rw [hlen]; exact (Array.getElem?_eq_some_iff.1 hi').1
    exact ⟨xs[i], by rw [this, List.getElem?_eq_getElem hlt]⟩
  refine ⟨g a, hl, fun i v hi => ?_⟩
  have hin : i < n := by rw [← hc, ← hl]; exact (List.getElem?_eq_some_iff.1 hi).1
  rw [hg a i hin]
  exact ha i v hin (by rw [Nat.zero_add]; exact hi)
theorem Reads.arg {P : Program} {t : TypeId} {α : Type} {row : α → Nat → SC} (hr : Reads P t α row) {H : Type} {enc : TypeId × Value → H} {w : World} {spare : Nat → Bool} {held : Bool} {v : Value} {d : DataW H} {ps : List MemPlace}
    (h : DataW.Trod enc P w 0 spare held t v d ps) (hv : v.cells.toList = [v]) : ∃ a : α, MS (Iw w) w (row a 0) v := by
  obtain ⟨fuel, hf⟩ := h
  obtain ⟨a, _, h2⟩ := hr hf
  exact ⟨a, h2 0 v (by rw [hv]; rfl)⟩
def Γw (w : World) : Ctx := ⟨Iw w, fun _ => 0, fun _ => undef⟩
theorem law_walk {P : Program} {f : FuncId} {args : List TV} {cargs : Array Value} {w : World} (h : Pure P f args (vc (bo true))) (hG : GlobOk (Iw w) w) (hm : MTs (Γw w) w args cargs.toList) :
    Calls P f cargs w fun e w' => e = .returned (.bool true) ∧ Below w.heap.size w w' := by
  refine (h.2 (Γw w) w cargs ⟨fun id ob h => (by cases h), fun id ob b h => (by cases h), fun id ob id' ob' b h => (by cases h), fun b hb => hb, hG⟩ hm).mono ?_
  rintro e w' ⟨v, Γ', rfl, hv, _, hg, _⟩
  obtain rfl : v = .bool true := hv
  exact ⟨rfl, hg.os, hg.tape, hg.output, hg.size, fun b hb => hg.keep b ⟨hb, fun id o h => (by cases h)⟩⟩
end AL
namespace AL
open Go Go.Proofs
set_option linter.unusedVariables false
theorem mixed : Tryd.prog.follows .mixedOrders = true := Tryd.checked.mixed
theorem own : ownKnob Tryd.prog.godebug = none := by kernel_rfl
theorem laidOut : laidOutB Tryd.prog = true := by kernel_rfl
end AL
namespace AL
open Go
set_option linter.unusedVariables false
end AL
namespace AL
open Go
set_option linter.unusedVariables false
theorem okWide_st {P : Program} {t : TypeId} {fs : Array Field} {w : World} {r : Reach} {base : Nat} {v : Value} (ht : P.underlying t = some (.struct fs)) (h : Value.okWide P w r base t v) : ∃ cs, v = .agg cs := by
  unfold Value.okWide at h; rw [ht] at h; obtain ⟨cs, h, _⟩ := h; exact ⟨cs, h⟩
theorem mcs_ofS {Γ : Ctx} {w : World} : ∀ (k : Nat) (f : Nat → SC) (vs : List Value), vs.length = k → (∀ i v, vs[i]? = some v → MS Γ.I w (f i) v) → MCs Γ w (ofS k f) vs := by
  intro k f vs hl h
  have key : ∀ (l : List Nat) (vs : List Value), vs.length = l.length → (∀ (i : Nat) (v : Value) (q : Nat), vs[i]? = some v → l[i]? = some q → MS Γ.I w (f q) v) → MCs Γ w (l.map fun i => AC.s (f i)) vs := by
    intro l
    induction l with
    | nil => intro vs hl _; cases vs with
      | nil => trivial
      | cons v vs => simp at hl
    | cons q l ih =>
      intro vs hl h
      cases vs with
      | nil => simp at hl
      | cons v vs => exact ⟨h 0 v q rfl rfl, ih vs (by simpa using hl) fun i u q' h1 h2 => h (i + 1) u q' h1 h2⟩
  refine key (List.range k) vs (by simpa using hl) fun i v q h1 h2 => ?_
  have hi : i < k := by
    have := (List.getElem?_eq_some_iff.1 h2).1
    simpa using this
  rw [List.getElem?_range hi] at h2
  cases h2
  exact h i v h1
theorem Reads.agg {P : Program} {t : TypeId} {α : Type} {row : α → Nat → SC} {k : Nat} (hr : Reads P t α row) (hk : P.cellsOf t = k) {H : Type} {enc : TypeId × Value → H} {w : World} {spare : Nat → Bool} {held : Bool} {cs : Array Value} {d : DataW H} {ps : List MemPlace}
    (h : DataW.Trod enc P w 0 spare held t (.agg cs) d ps) : ∃ a : α, MT (Γw w) w (.agg (ofS k (row a))) (.agg cs) := by
  obtain ⟨fuel, hf⟩ := h
  obtain ⟨a, h1, h2⟩ := hr hf
  exact ⟨a, cs, rfl, mcs_ofS k _ _ (by rw [← hk, ← h1]; rfl) h2⟩
theorem MCs.int {Γ : Ctx} {w : World} {k : IntKind} {n : Int} : ∀ {l : List AC} {vs : List Value} {i : Nat}, MCs Γ w l vs → l[i]? = some (.s (.int k n)) → InR k n
  | c :: l, v :: vs, 0, h, hi => by simp at hi; subst hi; exact h.1.2
  | c :: l, v :: vs, i + 1, h, hi => MCs.int h.2 (by simpa using hi)
  | [], [], i, _, hi => by simp at hi
theorem AMx.cell {P : Program} {R : Exit → AS → Prop} {k : List KI} {c : Code} {s : AS} (t : Nat) (i : Nat) {l : List AC} {ik n} (ht : s.reg t = .t (.agg l)) (hi : l[i]? = some (.s (.int ik n))) (h : InR ik n → AMx P R (.code c :: k) .normal s) : AMx P R (.code c :: k) .normal s :=
  AMx.learn _ (fun G Γ a w hC => by have := hC.regs t; rw [ht] at this; obtain ⟨cs, _, hm⟩ := this; exact hm.int hi) h
end AL
namespace AL
open Go
set_option linter.unusedVariables false
def AC.le (a b : AC) : Prop := ∀ Γ w v, MC Γ w a v → MC Γ w b v
def acsLe : List AC → List AC → Prop
  | [], [] => True
  | a :: l, b :: m => AC.le a b ∧ acsLe l m
  | _, _ => False
def TV.le (a b : TV) : Prop := ∀ Γ w v, MT Γ w a v → MT Γ w b v
def tvsLe : List TV → List TV → Prop
  | [], [] => True
  | a :: l, b :: m => TV.le a b ∧ tvsLe l m
  | _, _ => False
def AV.le (a b : AV) : Prop := ∀ Γ obj w v, MV Γ obj w a v → MV Γ obj w b v
theorem AC.le_rfl {a : AC} : AC.le a a := fun _ _ _ h => h
theorem TV.le_rfl {a : TV} : TV.le a a := fun _ _ _ h => h
theorem AC.le_nil {k α d row} : AC.le (.s .nilsl) (.s (.sl k α d row [])) := by
  intro Γ w v h
  have h : v = .slice none 0 0 := h
  subst h
  exact ⟨none, 0, rfl, Nat.le_refl _, Nat.zero_le _, .inl ⟨rfl, fun _ => rfl⟩⟩
theorem acsLe.ok {Γ w} : ∀ {l m : List AC} {vs : List Value}, acsLe l m → MCs Γ w l vs → MCs Γ w m vs
  | [], [], _, _, h => h
  | _ :: _, _ :: _, _ :: _, h, h' => ⟨h.1 _ _ _ h'.1, acsLe.ok h.2 h'.2⟩
  | [], _ :: _, _, h, _ => h.elim
  | _ :: _, [], _, h, _ => h.elim
  | _ :: _, _ :: _, [], _, h => h.elim
theorem TV.le_agg {l m : List AC} (h : acsLe l m) : TV.le (.agg l) (.agg m) := fun Γ w v ⟨cs, e, hm⟩ => ⟨cs, e, h.ok hm⟩
theorem tvsLe.ok {Γ w} : ∀ {l m : List TV} {vs : List Value}, tvsLe l m → MTs Γ w l vs → MTs Γ w m vs
  | [], [], _, _, h => h
  | _ :: _, _ :: _, _ :: _, h, h' => ⟨h.1 _ _ _ h'.1, tvsLe.ok h.2 h'.2⟩
  | [], _ :: _, _, h, _ => h.elim
  | _ :: _, [], _, h, _ => h.elim
  | _ :: _, _ :: _, [], _, h => h.elim
theorem AV.le_tup {l m : List TV} (h : tvsLe l m) : AV.le (.tup l) (.tup m) := fun Γ obj w v ⟨cs, e, hm⟩ => ⟨cs, e, h.ok hm⟩
theorem Spec.weak {P : Program} {f : FuncId} {args args' : List TV} {H H' : Nat → Option AObj} {res : AV} (h : tvsLe args args') (hs : Spec P f args' H res H') : Spec P f args H res H' :=
  ⟨hs.1, fun Γ w cargs hh hm => hs.2 Γ w cargs hh (h.ok hm)⟩
theorem ent_row {s : AS} (id : Nat) {l m : List AC} (ho : s.obj id = some (.row l)) (h : acsLe l m) : s.ent ⟨s.n, s.reg, fun j => bif Nat.beq j id then some (.row m) else s.obj j⟩ := by
  intro G Γ a w hC
  have key : ∀ j o, (bif Nat.beq j id then some (.row m) else s.obj j) = some o → ∃ o', s.obj j = some o' ∧ o'.width = o.width ∧ (∀ b, fp Γ j o b → fp Γ j o' b) ∧ (MO Γ w j o' → MO Γ w j o) := by
    intro j o hj
    by_cases hx : j = id
    · subst hx
      rw [Nat.beq_refl] at hj
      cases hj
      refine ⟨_, ho, rfl, fun b hb => hb, ?_⟩
      rintro ⟨cs, T, h1, h2⟩
      exact ⟨cs, T, h1, h.ok h2⟩
    · rw [beq_false hx] at hj
      exact ⟨o, hj, rfl, fun b hb => hb, fun h => h⟩
  refine ⟨Γ, hC.size, hC.defers, fun t => ?_, ⟨fun j o hj => ?_, fun j o b hj hb => ?_, fun j o j' o' b hj hj' hb hb' => ?_, hC.heap.ilt, hC.heap.glob⟩, ⟨hC.g.os, hC.g.tape, hC.g.output, hC.g.size, hC.g.prlt, hC.g.keep, hC.g.sub, hC.g.bak, fun j o b hj hb => ?_⟩, hC.ids⟩
  · refine MV.ext (D := fun _ => False) ⟨fun b hb => hb, fun b hb => rfl, fun _ _ => ⟨rfl, rfl⟩⟩ (fun j o _ hj => ?_) (fun d hd => hd.elim) (hC.regs t)
    obtain ⟨o', h1, h2, _⟩ := key j o hj
    exact ⟨o', h1, h2.symm⟩
  · obtain ⟨o', h1, _, _, h4⟩ := key j o hj
    exact h4 (hC.heap.objs j o' h1)
  · obtain ⟨o', h1, _, h3, _⟩ := key j o hj
    exact hC.heap.lt j o' b h1 (h3 b hb)
  · obtain ⟨o1, h1, _, h3, _⟩ := key j o hj
    obtain ⟨o2, g1, _, g3, _⟩ := key j' o' hj'
    exact hC.heap.inj j o1 j' o2 b h1 g1 (h3 b hb) (g3 b hb')
  · obtain ⟨o', h1, _, h3, _⟩ := key j o hj
    exact hC.g.own j o' b h1 (h3 b hb)
section
variable {P : Program} {R : Exit → AS → Prop} {K : List KI} {s : AS}
end
theorem MCs.len {Γ : Ctx} {w : World} {k : Nat} {α : Type} {d : α} {row : α → Nat → SC} {m : List α} : ∀ {l : List AC} {vs : List Value} {i : Nat}, MCs Γ w l vs → l[i]? = some (.s (.sl k α d row m)) → m.length ≤ maxLen
  | c :: l, v :: vs, 0, h, hi => by
    simp at hi; subst hi
    obtain ⟨a, cap, _, h1, h2, _⟩ := (show MS Γ.I w (.sl k α d row m) v from h.1)
    omega
  | c :: l, v :: vs, i + 1, h, hi => MCs.len h.2 (by simpa using hi)
  | [], [], i, _, hi => by simp at hi
section
variable {P : Program} {R : Exit → AS → Prop} {K : List KI} {s : AS}
theorem AMx.celln {c : Code} (t i : Nat) {l : List AC} {k : Nat} {α : Type} {d : α} {row : α → Nat → SC} {m : List α} (ht : s.reg t = .t (.agg l)) (hi : l[i]? = some (.s (.sl k α d row m))) (h : m.length ≤ maxLen → AMx P R (.code c :: K) .normal s) : AMx P R (.code c :: K) .normal s :=
  AMx.learn _ (fun G Γ a w hC => by have := hC.regs t; rw [ht] at this; obtain ⟨cs, _, hm⟩ := this; exact hm.len hi) h
end
def isGrow : AObj → Bool
  | .grow .. => true
  | _ => false
def RetO (P : Program) (fn : Func) (o : AObj) (e : Exit) (s : AS) : Prop :=
  (e = .ret ∨ e = .normal) ∧ ∃ id o', evRes P fn s = some (.t (.c (.own id))) ∧ s.obj id = some o' ∧ o' = o
theorem Own.of_body {P : Program} {f : FuncId} {fn : Func} {c : Code} {args : List TV} {o : AObj} {n : Nat} (hf : P.funcs[f]? = some fn) (hb : fn.body = some c) (hn : (fn.name == "runtime.NumGoroutine") = false)
    (hnt : fn.ntmps = n) (hle : Nat.ble args.length n = true) (hg : isGrow o = true) (h : AMx P (RetO P fn o) [.code c] .normal (AS.lst n (argRegs 0 args) [])) (d : Nat) : Spec P f args H0 (vo d) (ofH [(d, o)]) := by
  refine ⟨⟨fn, hf, by rw [hb]; rfl, hn⟩, fun Γ w cargs hh hm => ?_⟩
  refine calls_of_wp hf hb ?_
  have hC := body_start (P := P) (H := []) hnt hle hh hm
  refine wp_mono (h _ _ _ _ hC) ?_
  rintro e a' w' ⟨s', Γ', ⟨he, id, _, hr, hid, rfl⟩, hC'⟩
  obtain ⟨v, h1, h2, h3⟩ := res_ok (P := P) (fn := fn) hC' hr
  rename_i o
  have hpost : a'.defers = [] ∧ ∃ v, (results fn a'.tmps).run P w' = Result.ok v w' ∧ ∃ v_1 Γ', Ending.returned v = .returned v_1 ∧ MV Γ' (ofH [(d, o)]) w' (vo d) v_1 ∧ HeapOk Γ' (ofH [(d, o)]) w' ∧ GOk ⟨w, prOf Γ (ofH []) w, Γ.I, Γ.ρ, Γ.η, []⟩ Γ' (ofH [(d, o)]) w' ∧ Agree (fun id => ofH [(d, o)] id ≠ none ∧ H0 id = none) Γ Γ' := by
    let Γ2 : Ctx := ⟨Γ'.I, fun j => bif Nat.beq j d then Γ'.ρ id else Γ.ρ j, fun j => bif Nat.beq j d then Γ'.η id else Γ.η j⟩
    have er : Γ2.ρ d = Γ'.ρ id := by show (bif Nat.beq d d then _ else _) = _; rw [Nat.beq_refl]; rfl
    have ee : Γ2.η d = Γ'.η id := by show (bif Nat.beq d d then _ else _) = _; rw [Nat.beq_refl]; rfl
    have hfp : ∀ b, fp Γ2 d o b → fp Γ' id o b := fun b hb => by
      unfold fp at hb ⊢
      rw [er, ee] at hb
      exact hb
    refine ⟨hC'.defers, v, h1, v, Γ2, rfl, ?_, ⟨fun j o' hj => ?_, fun j o' b hj hb => ?_, fun j o1 j' o2 b hj hj' _ _ => ?_, hC'.heap.ilt, hC'.heap.glob⟩,
      ⟨hC'.g.os, hC'.g.tape, hC'.g.output, hC'.g.size, hC'.g.prlt, hC'.g.keep, hC'.g.sub, hC'.g.bak, fun j o' b hj hb => ?_⟩, fun j hj => ?_⟩
    · have h2' : v = Γ'.η id ∧ v.oneCell' = true := h2
      exact ⟨h2'.1.trans ee.symm, h2'.2⟩
    · obtain ⟨rfl, rfl⟩ := ofH_one.1 hj
      have := hC'.heap.objs id _ hid
      cases o' with
      | grow T k α dd row l =>
        unfold MO at this ⊢
        rw [er, ee]
        exact this
      | _ => cases hg
    · obtain ⟨rfl, rfl⟩ := ofH_one.1 hj
      exact hC'.heap.lt id _ b hid (hfp b hb)
    · obtain ⟨rfl, _⟩ := ofH_one.1 hj
      obtain ⟨rfl, _⟩ := ofH_one.1 hj'
      rfl
    · obtain ⟨rfl, rfl⟩ := ofH_one.1 hj
      exact hC'.g.own id _ b hid (hfp b hb)
    · have : j ≠ d := fun e => hj ⟨by subst e; rw [ofH_one.2 ⟨rfl, rfl⟩]; simp, rfl⟩
      refine ⟨?_, ?_⟩
      · show (bif Nat.beq j d then _ else _) = _; rw [beq_false this]; rfl
      · show (bif Nat.beq j d then _ else _) = _; rw [beq_false this]; rfl
  rcases he with rfl | rfl
  · exact hpost
  · exact hpost
end AL
namespace AL
open Go
set_option linter.unusedVariables false
theorem MCs.set_own {Γ : Ctx} {w : World} {d : Nat} {post : List AC} : ∀ {pre : List AC} {vs : List Value}, Γ.η d = .slice none 0 0 → MCs Γ w (pre ++ .s .nilsl :: post) vs → MCs Γ w (pre ++ .own d :: post) vs
  | [], v :: vs, hη, h => by
    refine ⟨?_, h.2⟩
    have h1 : v = .slice none 0 0 := h.1
    subst h1
    exact ⟨hη.symm, rfl⟩
  | c :: pre, v :: vs, hη, h => ⟨h.1, MCs.set_own hη h.2⟩
  | [], [], _, h => h.elim
  | _ :: _, [], _, h => h.elim
theorem ent_adoptO {n : Nat} {L : List (Nat × AV)} {H : List (Nat × AObj)} (h d : Nat) (pre post : List AC) (T : TypeId) (k : Nat) (α : Type) (dd : α) (row : α → Nat → SC) (ho : ofH H h = some (.row (pre ++ .s .nilsl :: post)))
    (hd : Nat.blt d n = true) (hf : hasL d L = false) (hf' : hasO d H = false) :
    (AS.lst n L H).ent ⟨n, lkp L, fun j => bif Nat.beq j d then some (.grow T k α dd row []) else bif Nat.beq j h then some (.row (pre ++ .own d :: post)) else ofH H j⟩ := by
  intro G Γ a w hC
  obtain ⟨f1, f2⟩ := hasO_ok hf'
  let Γ' := mkΓ Γ d (Γ.ρ d) (.slice none 0 0)
  have hext : Ext (fun id => id = d) Γ w Γ' w := ⟨fun b hb => hb, fun b _ => rfl, mk_agree Γ d _ _⟩
  have hdh : h ≠ d := fun e => by subst e; rw [f1] at ho; cases ho
  have hobj : ∀ j o, (bif Nat.beq j d then some (AObj.grow T k α dd row []) else bif Nat.beq j h then some (.row (pre ++ .own d :: post)) else ofH H j) = some o →
      (j = d ∧ o = .grow T k α dd row []) ∨ (j ≠ d ∧ j = h ∧ o = .row (pre ++ .own d :: post)) ∨ (j ≠ d ∧ j ≠ h ∧ ofH H j = some o) := by
    intro j o hj
    by_cases h1 : j = d
    · subst h1; rw [Nat.beq_refl] at hj; cases hj; exact .inl ⟨rfl, rfl⟩
    · rw [beq_false h1] at hj
      by_cases h2 : j = h
      · subst h2; rw [Nat.beq_refl] at hj; cases hj; exact .inr (.inl ⟨h1, rfl, rfl⟩)
      · rw [beq_false h2] at hj; exact .inr (.inr ⟨h1, h2, hj⟩)
  have hfp : ∀ j o b, j ≠ d → fp Γ' j o b → fp Γ j o b := fun j o b hj h => (fp.ext (mk_agree Γ d (Γ.ρ d) (.slice none 0 0)) hj).1 h
  have hnf : ∀ b, ¬ fp Γ' d (.grow T k α dd row []) b := fun b h => by
    have := h.2
    simp only [Γ', mk_η] at this
    exact this rfl
  have hrow : ∀ b, fp Γ' h (.row (pre ++ .own d :: post)) b → fp Γ h (.row (pre ++ .s .nilsl :: post)) b := fun b hb => (fp.ext (mk_agree Γ d (Γ.ρ d) (.slice none 0 0)) hdh).1 (show fp Γ' h (.row (pre ++ .s .nilsl :: post)) b from hb)
  have hmo : MO Γ' w h (.row (pre ++ .s .nilsl :: post)) := MO.ext hext hdh (fun e he => by subst he; exact f2 h _ ho) (fun b _ => rfl) (hC.heap.objs h _ ho)
  have old : ∀ j o, (bif Nat.beq j d then some (AObj.grow T k α dd row []) else bif Nat.beq j h then some (.row (pre ++ .own d :: post)) else ofH H j) = some o → j ≠ d → ∃ o', ofH H j = some o' ∧ o'.width = o.width ∧ ∀ b, fp Γ' j o b → fp Γ j o' b := by
    intro j o hj hjd
    rcases hobj j o hj with ⟨h1, _⟩ | ⟨_, rfl, rfl⟩ | ⟨h1, h2, h3⟩
    · exact absurd h1 hjd
    · exact ⟨_, ho, rfl, hrow⟩
    · exact ⟨o, h3, rfl, fun b => hfp j o b h1⟩
  refine ⟨Γ', ⟨hC.size, hC.defers, fun u => ?_, ⟨fun j o hj => ?_, fun j o b hj hb => ?_, fun j o j' o' b hj hj' hb hb' => ?_, hC.heap.ilt, hC.heap.glob⟩, ⟨hC.g.os, hC.g.tape, hC.g.output, hC.g.size, hC.g.prlt, hC.g.keep, hC.g.sub, hC.g.bak, fun j o b hj hb => ?_⟩, fun i hi => ?_⟩⟩
  · refine MV.ext hext (fun j o hj ho' => ?_) (fun e he => by subst he; exact hasL_ok hf u) (hC.regs u)
    obtain ⟨o', h1, h2, _⟩ := old j o ho' hj
    exact ⟨o', h1, h2.symm⟩
  · rcases hobj j o hj with ⟨rfl, rfl⟩ | ⟨h1, rfl, rfl⟩ | ⟨h1, h2, h3⟩
    · exact .inl ⟨by simp only [Γ', mk_η], rfl⟩
    · obtain ⟨cs, T', q1, q2⟩ := hmo
      exact ⟨cs, T', q1, q2.set_own (by simp only [Γ', mk_η])⟩
    · exact MO.ext hext h1 (fun e he => by subst he; exact f2 j o h3) (fun b _ => rfl) (hC.heap.objs j o h3)
  · by_cases hjd : j = d
    · rcases hobj j o hj with ⟨rfl, rfl⟩ | ⟨h1, _⟩ | ⟨h1, _⟩
      · exact absurd hb (hnf b)
      · exact absurd hjd h1
      · exact absurd hjd h1
    · obtain ⟨o', h1, _, h3⟩ := old j o hj hjd
      exact hC.heap.lt j o' b h1 (h3 b hb)
  · by_cases hjd : j = d
    · rcases hobj j o hj with ⟨rfl, rfl⟩ | ⟨h1, _⟩ | ⟨h1, _⟩
      · exact absurd hb (hnf b)
      · exact absurd hjd h1
      · exact absurd hjd h1
    · by_cases hjd' : j' = d
      · rcases hobj j' o' hj' with ⟨rfl, rfl⟩ | ⟨h1, _⟩ | ⟨h1, _⟩
        · exact absurd hb' (hnf b)
        · exact absurd hjd' h1
        · exact absurd hjd' h1
      · obtain ⟨o1, h1, _, h3⟩ := old j o hj hjd
        obtain ⟨o2, g1, _, g3⟩ := old j' o' hj' hjd'
        exact hC.heap.inj j o1 j' o2 b h1 g1 (h3 b hb) (g3 b hb')
  · by_cases hjd : j = d
    · rcases hobj j o hj with ⟨rfl, rfl⟩ | ⟨h1, _⟩ | ⟨h1, _⟩
      · exact absurd hb (hnf b)
      · exact absurd hjd h1
      · exact absurd hjd h1
    · obtain ⟨o', h1, _, h3⟩ := old j o hj hjd
      exact hC.g.own j o' b h1 (h3 b hb)
  · have hdn := Nat.le_of_ble_eq_true hd
    obtain ⟨e1, e2⟩ := mk_agree Γ d (Γ.ρ d) (.slice none 0 0) i (by have : n ≤ i := hi; omega)
    show (mkΓ Γ d (Γ.ρ d) (.slice none 0 0)).ρ i = _ ∧ (mkΓ Γ d (Γ.ρ d) (.slice none 0 0)).η i = _
    rw [e1, e2]
    exact hC.ids i hi
end AL
namespace AL
open Go
set_option linter.unusedVariables false
structure OneRow (α : Type) [Inhabited α] (row : α → Nat → SC) (enc : α → Value) (good : α → Prop) : Prop where
  ms : ∀ {I w x v}, MS I w (row x 0) v → v = enc x ∧ good x
  put : ∀ {I w x}, good x → MS I w (row x 0) (enc x)
section
variable {P : Program} {f : FuncId} {α : Type} [Inhabited α] {row : α → Nat → SC} {enc : α → Value} {good : α → Prop} {d : α} {T : TypeId} {l : List α}
end
theorem Pure.of_calls {P : Program} {f : FuncId} {args : List TV} {res : AV} (hc : Callable P f)
    (h : ∀ Γ w cargs, MTs Γ w args cargs.toList → Calls P f cargs w fun e w' => ∃ v, e = .returned v ∧ w' = w ∧ MV Γ H0 w res v) : Pure P f args res := by
  refine ⟨hc, fun Γ w cargs hh hm => (h Γ w cargs hm).mono ?_⟩
  rintro e w' ⟨v, rfl, rfl, hv⟩
  exact ⟨v, Γ, rfl, hv, hh, ⟨rfl, rfl, rfl, Nat.le_refl _, fun b hb => hb.1, fun b hb => rfl, fun b hb => hb, fun b _ hb => hb, fun j o b hj _ _ => by cases hj⟩, fun _ _ => ⟨rfl, rfl⟩⟩
theorem args2 {Γ : Ctx} {w : World} {a b : TV} {cargs : Array Value} (h : MTs Γ w [a, b] cargs.toList) : ∃ u v, cargs = #[u, v] ∧ MT Γ w a u ∧ MT Γ w b v := by
  have := h.length
  rw [Array.length_toList] at this
  match cargs, this, h with
  | ⟨[u, v]⟩, _, h => exact ⟨u, v, rfl, h.1, h.2.1⟩
end AL
namespace AL
open Go
set_option linter.unusedVariables false
end AL
namespace AL
open Go Go.RowKit
set_option linter.unusedVariables false
theorem HeapOk.below {Γ : Ctx} {w w' : World} (hh : HeapOk Γ H0 w) (hb : Below w.heap.size w w') : HeapOk Γ H0 w' :=
  ⟨fun _ _ h => (by cases h), fun _ _ _ h => (by cases h), fun _ _ _ _ _ h => (by cases h), fun b hi => Nat.lt_of_lt_of_le (hh.ilt b hi) hb.size, hh.glob.mono (fun b h => h) fun b hi => hb.block b (hh.ilt b hi)⟩
theorem Pure.of_below {P : Program} {f : FuncId} {args : List TV} {res : AV} (hc : Callable P f)
    (h : ∀ Γ w cargs, HeapOk Γ H0 w → MTs Γ w args cargs.toList → Calls P f cargs w fun e w' => ∃ v, e = .returned v ∧ Below w.heap.size w w' ∧ MV Γ H0 w' res v) : Pure P f args res := by
  refine ⟨hc, fun Γ w cargs hh hm => (h Γ w cargs hh hm).mono ?_⟩
  rintro e w' ⟨v, rfl, hb, hv⟩
  exact ⟨v, Γ, rfl, hv, hh.below hb, ⟨hb.os, hb.tape, hb.output, hb.size, fun b hb => hb.1, fun b hp => hb.block b hp.1, fun b hb => hb, fun b _ hb => hb, fun j o b hj _ _ => by cases hj⟩, fun _ _ => ⟨rfl, rfl⟩⟩
theorem Pure.below {P : Program} {f : FuncId} {args : List TV} {res : AV} (h : Pure P f args res) {Γ : Ctx} {w : World} {cargs : Array Value} (hh : HeapOk Γ H0 w) (hm : MTs Γ w args cargs.toList) :
    Calls P f cargs w fun e w' => ∃ v Γ', e = .returned v ∧ MV Γ' H0 w' res v ∧ Below w.heap.size w w' := by
  refine (h.2 Γ w cargs hh hm).mono ?_
  rintro e w' ⟨v, Γ', rfl, hv, _, hg, _⟩
  exact ⟨v, Γ', rfl, hv, hg.os, hg.tape, hg.output, hg.size, fun b hb => hg.keep b ⟨hb, fun id o h => (by cases h)⟩⟩
theorem args1 {Γ : Ctx} {w : World} {a : TV} {cargs : Array Value} (h : MTs Γ w [a] cargs.toList) : ∃ u, cargs = #[u] ∧ MT Γ w a u := by
  have := h.length
  rw [Array.length_toList] at this
  match cargs, this, h with
  | ⟨[u]⟩, _, h => exact ⟨u, rfl, h.1⟩
end AL
namespace AL
open Go
set_option linter.unusedVariables false
def RetIO (P : Program) (fn : Func) (res : AV) (D : Nat) (o : AObj) (e : Exit) (s : AS) : Prop :=
  (e = .ret ∨ e = .normal) ∧ ∃ r o', evRes P fn s = some r ∧ r = res ∧ s.obj D = some o' ∧ o' = o ∧ Nat.ble s.n D = true
theorem IO.of_body {P : Program} {f : FuncId} {fn : Func} {c : Code} {rest : List TV} {res : AV} {n D : Nat} {row row' : List AC} (hf : P.funcs[f]? = some fn) (hb : fn.body = some c) (hn : (fn.name == "runtime.NumGoroutine") = false)
    (hnt : fn.ntmps = n) (hle : Nat.ble (rest.length + 1) n = true) (hno : res.no = true) (hr : tvsNo rest = true) (hi : acsNo row = true) (ho : acsNo row' = true)
    (h : AMx P (RetIO P fn res D (.row row')) [.code c] .normal (AS.lst n (argRegs 0 (.c (.ptr D 0) :: rest)) [(D, .row row)])) (d : Nat) :
    Spec P f (.c (.ptr d 0) :: rest) (ofH [(d, .row row)]) res (ofH [(d, .row row')]) := by
  refine ⟨⟨fn, hf, by rw [hb]; rfl, hn⟩, fun Γ w cargs hh hm => ?_⟩
  refine calls_of_wp hf hb ?_
  let Γ1 : Ctx := ⟨Γ.I, fun j => bif Nat.beq j D then Γ.ρ d else Γ.ρ j, fun j => bif Nat.beq j D then Γ.η d else Γ.η j⟩
  have er : Γ1.ρ D = Γ.ρ d := by show (bif Nat.beq D D then _ else _) = _; rw [Nat.beq_refl]; rfl
  have hx1 : Ext (fun _ => True) Γ w Γ1 w := ⟨fun b hb => hb, fun b hb => rfl, fun id h => absurd trivial h⟩
  have hfp : ∀ o b, fp Γ1 D (.row o) b ↔ fp Γ d (.row o) b := fun o b => by unfold fp; rw [er]
  have hh1 : HeapOk Γ1 (ofH [(D, .row row)]) w := by
    refine ⟨fun j o hj => ?_, fun j o b hj hb => ?_, fun j o j' o' b hj hj' _ _ => ?_, hh.ilt, hh.glob⟩
    · obtain ⟨rfl, rfl⟩ := ofH_one.1 hj
      obtain ⟨cs, T, h1, h2⟩ := hh.objs d _ (ofH_one.2 ⟨rfl, rfl⟩)
      exact ⟨cs, T, by rw [er]; exact h1, MCs.ext hx1 (acsNo_has row hi) h2⟩
    · obtain ⟨rfl, rfl⟩ := ofH_one.1 hj
      exact hh.lt d _ b (ofH_one.2 ⟨rfl, rfl⟩) ((hfp _ _).1 hb)
    · obtain ⟨rfl, _⟩ := ofH_one.1 hj
      obtain ⟨rfl, _⟩ := ofH_one.1 hj'
      rfl
  have hm1 : MTs Γ1 w (.c (.ptr D 0) :: rest) cargs.toList := by
    revert hm
    cases cargs.toList with
    | nil => intro h; exact h.elim
    | cons v l =>
      intro h
      refine ⟨?_, MTs.ext hx1 (tvsNo_has rest hr) h.2⟩
      have h0 : v = .pointer (some ⟨Γ.ρ d, 0, none⟩) := h.1
      show v = .pointer (some ⟨Γ1.ρ D, 0, none⟩)
      rw [er]; exact h0
  have hpr : prOf Γ1 (ofH [(D, .row row)]) w = prOf Γ (ofH [(d, .row row)]) w := by
    funext b
    apply propext
    constructor
    · rintro ⟨h1, h2⟩
      refine ⟨h1, fun j o hj hb => ?_⟩
      obtain ⟨rfl, rfl⟩ := ofH_one.1 hj
      exact h2 D _ (ofH_one.2 ⟨rfl, rfl⟩) ((hfp _ _).2 hb)
    · rintro ⟨h1, h2⟩
      refine ⟨h1, fun j o hj hb => ?_⟩
      obtain ⟨rfl, rfl⟩ := ofH_one.1 hj
      exact h2 d _ (ofH_one.2 ⟨rfl, rfl⟩) ((hfp _ _).1 hb)
  have hC := body_start (P := P) (H := [(D, .row row)]) hnt (by exact hle) hh1 hm1
  refine wp_mono (h _ _ _ _ hC) ?_
  rintro e a' w' ⟨s', Γ', ⟨he, r, _, hr, rfl, hD', rfl, hsn⟩, hC'⟩
  obtain ⟨v, h1, h2, h3⟩ := res_ok (P := P) (fn := fn) hC' hr
  have hpost : a'.defers = [] ∧ ∃ v, (results fn a'.tmps).run P w' = Result.ok v w' ∧ ∃ v_1 Γ', Ending.returned v = .returned v_1 ∧ MV Γ' (ofH [(d, .row row')]) w' r v_1 ∧ HeapOk Γ' (ofH [(d, .row row')]) w' ∧ GOk ⟨w, prOf Γ (ofH [(d, .row row)]) w, Γ.I, Γ.ρ, Γ.η, []⟩ Γ' (ofH [(d, .row row')]) w' ∧ Agree (fun id => ofH [(d, .row row')] id ≠ none ∧ ofH [(d, .row row)] id = none) Γ Γ' := by
    let Γ2 : Ctx := ⟨Γ'.I, Γ.ρ, Γ.η⟩
    have hx : Ext (fun _ => True) Γ' w' Γ2 w' := ⟨fun b hb => hb, fun b hb => rfl, fun id h => absurd trivial h⟩
    have eD : Γ'.ρ D = Γ.ρ d := by
      have := (hC'.ids D (Nat.le_of_ble_eq_true hsn)).1
      exact this.trans er
    have hfp2 : ∀ b, fp Γ2 d (.row row') b → fp Γ' D (.row row') b := fun b hb => by
      unfold fp at hb ⊢
      rw [eD]; exact hb
    have hg := hC'.g
    rw [hpr] at hg
    refine ⟨hC'.defers, v, h1, v, Γ2, rfl, MV.ext hx (fun id o h => absurd trivial h) (AV.no_has r hno) (plain_obj (obj' := ofH [(d, .row row')]) h3 h2), ⟨fun j o hj => ?_, fun j o b hj hb => ?_, fun j o j' o' b hj hj' _ _ => ?_, hC'.heap.ilt, hC'.heap.glob⟩,
      ⟨hg.os, hg.tape, hg.output, hg.size, hg.prlt, hg.keep, hg.sub, hg.bak, fun j o b hj hb => ?_⟩, fun _ _ => ⟨rfl, rfl⟩⟩
    · obtain ⟨rfl, rfl⟩ := ofH_one.1 hj
      obtain ⟨cs, T, q1, q2⟩ := hC'.heap.objs D _ hD'
      exact ⟨cs, T, by rw [show Γ2.ρ j = Γ'.ρ D from eD.symm]; exact q1, MCs.ext hx (acsNo_has row' ho) q2⟩
    · obtain ⟨rfl, rfl⟩ := ofH_one.1 hj
      exact hC'.heap.lt D _ b hD' (hfp2 b hb)
    · obtain ⟨rfl, _⟩ := ofH_one.1 hj
      obtain ⟨rfl, _⟩ := ofH_one.1 hj'
      rfl
    · obtain ⟨rfl, rfl⟩ := ofH_one.1 hj
      exact hg.own D _ b hD' (hfp2 b hb)
  rcases he with rfl | rfl
  · exact hpost
  · exact hpost
end AL
namespace AL
open Go
set_option linter.unusedVariables false
theorem grow_mo {Γ Γ2 : Ctx} {w : World} {d id : Nat} {o : AObj} (hg : isGrow o = true) (er : Γ2.ρ d = Γ.ρ id) (ee : Γ2.η d = Γ.η id) (ei : Γ2.I = Γ.I) (h : MO Γ w id o) : MO Γ2 w d o := by
  cases o with
  | grow T k α dd row l =>
    unfold MO at h ⊢
    rw [er, ee, ei]
    exact h
  | _ => cases hg
theorem OwnIO.of_body {P : Program} {f : FuncId} {fn : Func} {c : Code} {rest : List TV} {n D : Nat} {o0 o : AObj} (hf : P.funcs[f]? = some fn) (hb : fn.body = some c) (hn : (fn.name == "runtime.NumGoroutine") = false)
    (hnt : fn.ntmps = n) (hle : Nat.ble (rest.length + 1) n = true) (hr : tvsNo rest = true) (h0 : isGrow o0 = true) (hg : isGrow o = true)
    (h : AMx P (RetO P fn o) [.code c] .normal (AS.lst n (argRegs 0 (.c (.own D) :: rest)) [(D, o0)])) (d d' : Nat) (hd : Nat.beq d d' = false) :
    Spec P f (.c (.own d) :: rest) (ofH [(d, o0)]) (vo d') (ofH [(d', o)]) := by
  refine ⟨⟨fn, hf, by rw [hb]; rfl, hn⟩, fun Γ w cargs hh hm => ?_⟩
  refine calls_of_wp hf hb ?_
  let Γ1 : Ctx := ⟨Γ.I, fun j => bif Nat.beq j D then Γ.ρ d else Γ.ρ j, fun j => bif Nat.beq j D then Γ.η d else Γ.η j⟩
  have er : Γ1.ρ D = Γ.ρ d := by show (bif Nat.beq D D then _ else _) = _; rw [Nat.beq_refl]; rfl
  have ee : Γ1.η D = Γ.η d := by show (bif Nat.beq D D then _ else _) = _; rw [Nat.beq_refl]; rfl
  have hx1 : Ext (fun _ => True) Γ w Γ1 w := ⟨fun b hb => hb, fun b hb => rfl, fun id h => absurd trivial h⟩
  have hfp : ∀ o b, fp Γ1 D o b ↔ fp Γ d o b := fun o b => by unfold fp; rw [er, ee]
  have hh1 : HeapOk Γ1 (ofH [(D, o0)]) w := by
    refine ⟨fun j o hj => ?_, fun j o b hj hb => ?_, fun j o j' o' b hj hj' _ _ => ?_, hh.ilt, hh.glob⟩
    · obtain ⟨rfl, rfl⟩ := ofH_one.1 hj
      exact grow_mo h0 er ee rfl (hh.objs d _ (ofH_one.2 ⟨rfl, rfl⟩))
    · obtain ⟨rfl, rfl⟩ := ofH_one.1 hj
      exact hh.lt d _ b (ofH_one.2 ⟨rfl, rfl⟩) ((hfp _ _).1 hb)
    · obtain ⟨rfl, _⟩ := ofH_one.1 hj
      obtain ⟨rfl, _⟩ := ofH_one.1 hj'
      rfl
  have hm1 : MTs Γ1 w (.c (.own D) :: rest) cargs.toList := by
    revert hm
    cases cargs.toList with
    | nil => intro h; exact h.elim
    | cons v l =>
      intro h
      refine ⟨?_, MTs.ext hx1 (tvsNo_has rest hr) h.2⟩
      have h0 : v = Γ.η d ∧ v.oneCell' = true := h.1
      exact ⟨h0.1.trans ee.symm, h0.2⟩
  have hpr : prOf Γ1 (ofH [(D, o0)]) w = prOf Γ (ofH [(d, o0)]) w := by
    funext b
    apply propext
    constructor
    · rintro ⟨h1, h2⟩
      refine ⟨h1, fun j o hj hb => ?_⟩
      obtain ⟨rfl, rfl⟩ := ofH_one.1 hj
      exact h2 D _ (ofH_one.2 ⟨rfl, rfl⟩) ((hfp _ _).2 hb)
    · rintro ⟨h1, h2⟩
      refine ⟨h1, fun j o hj hb => ?_⟩
      obtain ⟨rfl, rfl⟩ := ofH_one.1 hj
      exact h2 d _ (ofH_one.2 ⟨rfl, rfl⟩) ((hfp _ _).1 hb)
  have hC := body_start (P := P) (H := [(D, o0)]) hnt (by exact hle) hh1 hm1
  refine wp_mono (h _ _ _ _ hC) ?_
  rintro e a' w' ⟨s', Γ', ⟨he, id, _, hr, hid, rfl⟩, hC'⟩
  obtain ⟨v, h1, h2, h3⟩ := res_ok (P := P) (fn := fn) hC' hr
  rename_i o
  have hpost : a'.defers = [] ∧ ∃ v, (results fn a'.tmps).run P w' = Result.ok v w' ∧ ∃ v_1 Γ', Ending.returned v = .returned v_1 ∧ MV Γ' (ofH [(d', o)]) w' (vo d') v_1 ∧ HeapOk Γ' (ofH [(d', o)]) w' ∧ GOk ⟨w, prOf Γ (ofH [(d, o0)]) w, Γ.I, Γ.ρ, Γ.η, []⟩ Γ' (ofH [(d', o)]) w' ∧ Agree (fun id => ofH [(d', o)] id ≠ none ∧ ofH [(d, o0)] id = none) Γ Γ' := by
    let Γ2 : Ctx := ⟨Γ'.I, fun j => bif Nat.beq j d' then Γ'.ρ id else Γ.ρ j, fun j => bif Nat.beq j d' then Γ'.η id else Γ.η j⟩
    have er2 : Γ2.ρ d' = Γ'.ρ id := by show (bif Nat.beq d' d' then _ else _) = _; rw [Nat.beq_refl]; rfl
    have ee2 : Γ2.η d' = Γ'.η id := by show (bif Nat.beq d' d' then _ else _) = _; rw [Nat.beq_refl]; rfl
    have hfp2 : ∀ b, fp Γ2 d' o b → fp Γ' id o b := fun b hb => by
      unfold fp at hb ⊢
      rw [er2, ee2] at hb
      exact hb
    have hg' := hC'.g
    rw [hpr] at hg'
    refine ⟨hC'.defers, v, h1, v, Γ2, rfl, ?_, ⟨fun j o' hj => ?_, fun j o' b hj hb => ?_, fun j o1 j' o2 b hj hj' _ _ => ?_, hC'.heap.ilt, hC'.heap.glob⟩,
      ⟨hg'.os, hg'.tape, hg'.output, hg'.size, hg'.prlt, hg'.keep, hg'.sub, hg'.bak, fun j o' b hj hb => ?_⟩, fun j hj => ?_⟩
    · have h2' : v = Γ'.η id ∧ v.oneCell' = true := h2
      exact ⟨h2'.1.trans ee2.symm, h2'.2⟩
    · obtain ⟨rfl, rfl⟩ := ofH_one.1 hj
      exact grow_mo hg er2 ee2 rfl (hC'.heap.objs id _ hid)
    · obtain ⟨rfl, rfl⟩ := ofH_one.1 hj
      exact hC'.heap.lt id _ b hid (hfp2 b hb)
    · obtain ⟨rfl, _⟩ := ofH_one.1 hj
      obtain ⟨rfl, _⟩ := ofH_one.1 hj'
      rfl
    · obtain ⟨rfl, rfl⟩ := ofH_one.1 hj
      exact hg'.own id _ b hid (hfp2 b hb)
    · have hne : j ≠ d' := fun e => hj ⟨by subst e; rw [ofH_one.2 ⟨rfl, rfl⟩]; simp, by
        subst e
        cases q : ofH [(d, o0)] j with
        | none => rfl
        | some o' =>
          obtain ⟨q1, _⟩ := ofH_one.1 q
          rw [q1, Nat.beq_refl] at hd
          cases hd⟩
      refine ⟨?_, ?_⟩
      · show (bif Nat.beq j d' then _ else _) = _; rw [beq_false hne]; rfl
      · show (bif Nat.beq j d' then _ else _) = _; rw [beq_false hne]; rfl
  rcases he with rfl | rfl
  · exact hpost
  · exact hpost
def RetT (P : Program) (fn : Func) (rs : List TV) (o : AObj) (e : Exit) (s : AS) : Prop :=
  (e = .ret ∨ e = .normal) ∧ ∃ id o' r, evRes P fn s = some r ∧ r = .tup (.c (.own id) :: rs) ∧ s.obj id = some o' ∧ o' = o
theorem OwnT.of_body {P : Program} {f : FuncId} {fn : Func} {c : Code} {args : List TV} {rs : List TV} {o : AObj} {n : Nat} (hf : P.funcs[f]? = some fn) (hb : fn.body = some c) (hn : (fn.name == "runtime.NumGoroutine") = false)
    (hnt : fn.ntmps = n) (hle : Nat.ble args.length n = true) (hg : isGrow o = true) (hrs : tvsNo rs = true) (h : AMx P (RetT P fn rs o) [.code c] .normal (AS.lst n (argRegs 0 args) [])) (d : Nat) : Spec P f args H0 (.tup (.c (.own d) :: rs)) (ofH [(d, o)]) := by
  refine ⟨⟨fn, hf, by rw [hb]; rfl, hn⟩, fun Γ w cargs hh hm => ?_⟩
  refine calls_of_wp hf hb ?_
  have hC := body_start (P := P) (H := []) hnt hle hh hm
  refine wp_mono (h _ _ _ _ hC) ?_
  rintro e a' w' ⟨s', Γ', ⟨he, id, _, _, hr, rfl, hid, rfl⟩, hC'⟩
  obtain ⟨v, h1, h2, h3⟩ := res_ok (P := P) (fn := fn) hC' hr
  rename_i o
  have hpost : a'.defers = [] ∧ ∃ v, (results fn a'.tmps).run P w' = Result.ok v w' ∧ ∃ v_1 Γ', Ending.returned v = .returned v_1 ∧ MV Γ' (ofH [(d, o)]) w' (.tup (.c (.own d) :: rs)) v_1 ∧ HeapOk Γ' (ofH [(d, o)]) w' ∧ GOk ⟨w, prOf Γ (ofH []) w, Γ.I, Γ.ρ, Γ.η, []⟩ Γ' (ofH [(d, o)]) w' ∧ Agree (fun id => ofH [(d, o)] id ≠ none ∧ H0 id = none) Γ Γ' := by
    let Γ2 : Ctx := ⟨Γ'.I, fun j => bif Nat.beq j d then Γ'.ρ id else Γ.ρ j, fun j => bif Nat.beq j d then Γ'.η id else Γ.η j⟩
    have er : Γ2.ρ d = Γ'.ρ id := by show (bif Nat.beq d d then _ else _) = _; rw [Nat.beq_refl]; rfl
    have ee : Γ2.η d = Γ'.η id := by show (bif Nat.beq d d then _ else _) = _; rw [Nat.beq_refl]; rfl
    have hx : Ext (fun _ => True) Γ' w' Γ2 w' := ⟨fun b hb => hb, fun b hb => rfl, fun id h => absurd trivial h⟩
    have hfp : ∀ b, fp Γ2 d o b → fp Γ' id o b := fun b hb => by
      unfold fp at hb ⊢
      rw [er, ee] at hb
      exact hb
    refine ⟨hC'.defers, v, h1, v, Γ2, rfl, ?_, ⟨fun j o' hj => ?_, fun j o' b hj hb => ?_, fun j o1 j' o2 b hj hj' _ _ => ?_, hC'.heap.ilt, hC'.heap.glob⟩,
      ⟨hC'.g.os, hC'.g.tape, hC'.g.output, hC'.g.size, hC'.g.prlt, hC'.g.keep, hC'.g.sub, hC'.g.bak, fun j o' b hj hb => ?_⟩, fun j hj => ?_⟩
    · obtain ⟨vs, e1, e2⟩ := h2
      refine ⟨vs, e1, ?_⟩
      revert e2
      cases hvs : vs.toList with
      | nil => intro h; exact h.elim
      | cons x l =>
        intro h
        refine ⟨?_, MTs.ext hx (tvsNo_has rs hrs) h.2⟩
        have h2' : x = Γ'.η id ∧ x.oneCell' = true := h.1
        exact ⟨h2'.1.trans ee.symm, h2'.2⟩
    · obtain ⟨rfl, rfl⟩ := ofH_one.1 hj
      exact grow_mo hg er ee rfl (hC'.heap.objs id _ hid)
    · obtain ⟨rfl, rfl⟩ := ofH_one.1 hj
      exact hC'.heap.lt id _ b hid (hfp b hb)
    · obtain ⟨rfl, _⟩ := ofH_one.1 hj
      obtain ⟨rfl, _⟩ := ofH_one.1 hj'
      rfl
    · obtain ⟨rfl, rfl⟩ := ofH_one.1 hj
      exact hC'.g.own id _ b hid (hfp b hb)
    · have : j ≠ d := fun e => hj ⟨by subst e; rw [ofH_one.2 ⟨rfl, rfl⟩]; simp, rfl⟩
      refine ⟨?_, ?_⟩
      · show (bif Nat.beq j d then _ else _) = _; rw [beq_false this]; rfl
      · show (bif Nat.beq j d then _ else _) = _; rw [beq_false this]; rfl
  rcases he with rfl | rfl
  · exact hpost
  · exact hpost
def RetI (P : Program) (fn : Func) (D : Nat) (o : AObj) (e : Exit) (s : AS) : Prop :=
  (e = .ret ∨ e = .normal) ∧ ∃ o', evRes P fn s = some (.tup []) ∧ s.obj D = some o' ∧ o' = o ∧ Nat.ble s.n D = true
theorem InPl.of_body {P : Program} {f : FuncId} {fn : Func} {c : Code} {rest : List TV} {n D : Nat} {o0 o : AObj} (hf : P.funcs[f]? = some fn) (hb : fn.body = some c) (hn : (fn.name == "runtime.NumGoroutine") = false)
    (hnt : fn.ntmps = n) (hle : Nat.ble (rest.length + 1) n = true) (hr : tvsNo rest = true) (h0 : isGrow o0 = true) (hg : isGrow o = true)
    (h : AMx P (RetI P fn D o) [.code c] .normal (AS.lst n (argRegs 0 (.c (.own D) :: rest)) [(D, o0)])) (d : Nat) :
    Spec P f (.c (.own d) :: rest) (ofH [(d, o0)]) (.tup []) (ofH [(d, o)]) := by
  refine ⟨⟨fn, hf, by rw [hb]; rfl, hn⟩, fun Γ w cargs hh hm => ?_⟩
  refine calls_of_wp hf hb ?_
  let Γ1 : Ctx := ⟨Γ.I, fun j => bif Nat.beq j D then Γ.ρ d else Γ.ρ j, fun j => bif Nat.beq j D then Γ.η d else Γ.η j⟩
  have er : Γ1.ρ D = Γ.ρ d := by show (bif Nat.beq D D then _ else _) = _; rw [Nat.beq_refl]; rfl
  have ee : Γ1.η D = Γ.η d := by show (bif Nat.beq D D then _ else _) = _; rw [Nat.beq_refl]; rfl
  have hx1 : Ext (fun _ => True) Γ w Γ1 w := ⟨fun b hb => hb, fun b hb => rfl, fun id h => absurd trivial h⟩
  have hfp : ∀ o b, fp Γ1 D o b ↔ fp Γ d o b := fun o b => by unfold fp; rw [er, ee]
  have hh1 : HeapOk Γ1 (ofH [(D, o0)]) w := by
    refine ⟨fun j o hj => ?_, fun j o b hj hb => ?_, fun j o j' o' b hj hj' _ _ => ?_, hh.ilt, hh.glob⟩
    · obtain ⟨rfl, rfl⟩ := ofH_one.1 hj
      exact grow_mo h0 er ee rfl (hh.objs d _ (ofH_one.2 ⟨rfl, rfl⟩))
    · obtain ⟨rfl, rfl⟩ := ofH_one.1 hj
      exact hh.lt d _ b (ofH_one.2 ⟨rfl, rfl⟩) ((hfp _ _).1 hb)
    · obtain ⟨rfl, _⟩ := ofH_one.1 hj
      obtain ⟨rfl, _⟩ := ofH_one.1 hj'
      rfl
  have hm1 : MTs Γ1 w (.c (.own D) :: rest) cargs.toList := by
    revert hm
    cases cargs.toList with
    | nil => intro h; exact h.elim
    | cons v l =>
      intro h
      refine ⟨?_, MTs.ext hx1 (tvsNo_has rest hr) h.2⟩
      have h0 : v = Γ.η d ∧ v.oneCell' = true := h.1
      exact ⟨h0.1.trans ee.symm, h0.2⟩
  have hpr : prOf Γ1 (ofH [(D, o0)]) w = prOf Γ (ofH [(d, o0)]) w := by
    funext b
    apply propext
    constructor
    · rintro ⟨h1, h2⟩
      refine ⟨h1, fun j o hj hb => ?_⟩
      obtain ⟨rfl, rfl⟩ := ofH_one.1 hj
      exact h2 D _ (ofH_one.2 ⟨rfl, rfl⟩) ((hfp _ _).2 hb)
    · rintro ⟨h1, h2⟩
      refine ⟨h1, fun j o hj hb => ?_⟩
      obtain ⟨rfl, rfl⟩ := ofH_one.1 hj
      exact h2 d _ (ofH_one.2 ⟨rfl, rfl⟩) ((hfp _ _).1 hb)
  have hC := body_start (P := P) (H := [(D, o0)]) hnt (by exact hle) hh1 hm1
  refine wp_mono (h _ _ _ _ hC) ?_
  rintro e a' w' ⟨s', Γ', ⟨he, _, hr, hid, rfl, hsn⟩, hC'⟩
  obtain ⟨v, h1, h2, h3⟩ := res_ok (P := P) (fn := fn) hC' hr
  rename_i o
  have hpost : a'.defers = [] ∧ ∃ v, (results fn a'.tmps).run P w' = Result.ok v w' ∧ ∃ v_1 Γ', Ending.returned v = .returned v_1 ∧ MV Γ' (ofH [(d, o)]) w' (.tup []) v_1 ∧ HeapOk Γ' (ofH [(d, o)]) w' ∧ GOk ⟨w, prOf Γ (ofH [(d, o0)]) w, Γ.I, Γ.ρ, Γ.η, []⟩ Γ' (ofH [(d, o)]) w' ∧ Agree (fun id => ofH [(d, o)] id ≠ none ∧ ofH [(d, o0)] id = none) Γ Γ' := by
    let Γ2 : Ctx := ⟨Γ'.I, Γ.ρ, Γ.η⟩
    have eD := hC'.ids D (Nat.le_of_ble_eq_true hsn)
    have er2 : Γ2.ρ d = Γ'.ρ D := (eD.1.trans er).symm
    have ee2 : Γ2.η d = Γ'.η D := (eD.2.trans ee).symm
    have hfp2 : ∀ b, fp Γ2 d o b → fp Γ' D o b := fun b hb => by
      unfold fp at hb ⊢
      rw [er2, ee2] at hb
      exact hb
    have hg' := hC'.g
    rw [hpr] at hg'
    refine ⟨hC'.defers, v, h1, v, Γ2, rfl, ?_, ⟨fun j o' hj => ?_, fun j o' b hj hb => ?_, fun j o1 j' o2 b hj hj' _ _ => ?_, hC'.heap.ilt, hC'.heap.glob⟩,
      ⟨hg'.os, hg'.tape, hg'.output, hg'.size, hg'.prlt, hg'.keep, hg'.sub, hg'.bak, fun j o' b hj hb => ?_⟩, fun j hj => ⟨rfl, rfl⟩⟩
    · obtain ⟨vs, e1, e2⟩ := h2
      refine ⟨vs, e1, ?_⟩
      revert e2
      cases vs.toList with
      | nil => exact fun _ => trivial
      | cons x l => exact fun h => h.elim
    · obtain ⟨rfl, rfl⟩ := ofH_one.1 hj
      exact grow_mo hg er2 ee2 rfl (hC'.heap.objs D _ hid)
    · obtain ⟨rfl, rfl⟩ := ofH_one.1 hj
      exact hC'.heap.lt D _ b hid (hfp2 b hb)
    · obtain ⟨rfl, _⟩ := ofH_one.1 hj
      obtain ⟨rfl, _⟩ := ofH_one.1 hj'
      rfl
    · obtain ⟨rfl, rfl⟩ := ofH_one.1 hj
      exact hg'.own D _ b hid (hfp2 b hb)
  rcases he with rfl | rfl
  · exact hpost
  · exact hpost
end AL
namespace AL.Fnv
open Go AL
set_option linter.unusedVariables false
set_option linter.unusedSimpArgs false
theorem take_succ {α : Type} (d : α) (l : List α) (k : Nat) (h : k < l.length) : List.take (k + 1) l = List.take k l ++ [List.getD l k d] := by
  rw [List.take_succ_eq_append_getElem h]; simp [List.getD, List.getElem?_eq_getElem h]
def rowS (s : Bytes) (_ : Nat) : SC := st s
abbrev slS (l : List Bytes) : SC := .sl 1 Bytes [] rowS l
end AL.Fnv
namespace AL.Lib
open Go AL
set_option linter.unusedVariables false
set_option linter.unusedSimpArgs false
variable {α : Type}
theorem getD_lt (d : α) (l : List α) (k : Nat) (h : k < l.length) : List.getD l k d = l[k] := by simp [List.getD, List.getElem?_eq_getElem h]
theorem getD_mem (d : α) (l : List α) (k : Nat) (h : k < l.length) : List.getD l k d ∈ l := by rw [getD_lt d l k h]; exact List.getElem_mem h
theorem take_succ (d : α) (l : List α) (k : Nat) (h : k < l.length) : List.take (k + 1) l = List.take k l ++ [List.getD l k d] := Fnv.take_succ d l k h
theorem drop_cons (d : α) (l : List α) (k : Nat) (h : k < l.length) : List.drop k l = List.getD l k d :: List.drop (k + 1) l := by
  rw [List.drop_eq_getElem_cons h, getD_lt d l k h]
theorem take_cons (d : α) (l : List α) (k : Nat) (h : k < l.length) : l = List.take k l ++ List.getD l k d :: List.drop (k + 1) l := by
  rw [← drop_cons d l k h, List.take_append_drop]
def idxS (p : α → Bool) : List α → Int
  | [] => -1
  | x :: l => if p x then 0 else if idxS p l < 0 then -1 else idxS p l + 1
theorem idx_none {p : α → Bool} {l : List α} (h : ∀ x ∈ l, p x = false) : idxS p l = -1 := by
  induction l with
  | nil => rfl
  | cons x l ih =>
    unfold idxS
    rw [if_neg (by simp [h x]), ih fun y hy => h y (List.mem_cons_of_mem _ hy)]
    rfl
theorem idx_app {p : α → Bool} {x : α} {m : List α} : ∀ {l : List α}, (∀ y ∈ l, p y = false) → p x = true → idxS p (l ++ x :: m) = l.length
  | [], _, hx => by simp [idxS, hx]
  | y :: l, h, hx => by
    rw [List.cons_append]
    unfold idxS
    rw [if_neg (by simp [h y]), idx_app (fun z hz => h z (List.mem_cons_of_mem _ hz)) hx]
    rw [if_neg (by omega)]
    simp
theorem idx_hit {p : α → Bool} (d : α) (l : List α) (k : Nat) (hk : k < l.length) (h : ∀ x ∈ List.take k l, p x = false) (hx : p (List.getD l k d) = true) : idxS p l = k := by
  have := idx_app (m := List.drop (k + 1) l) h hx
  rw [← take_cons d l k hk, List.length_take] at this
  rw [this]; congr 1; omega
theorem idx_neg {p : α → Bool} {l : List α} (h : idxS p l < 0) : ∀ x ∈ l, p x = false := by
  induction l with
  | nil => intro x hx; cases hx
  | cons y l ih =>
    unfold idxS at h
    split at h
    · omega
    · rename_i hy
      split at h
      · intro x hx
        rcases List.mem_cons.1 hx with rfl | hx
        · simpa using hy
        · exact ih (by omega) x hx
      · omega
theorem all_step {p : α → Bool} (d : α) (l : List α) (k : Nat) (hk : k < l.length) (h : ∀ x ∈ List.take k l, p x = false) (hx : p (List.getD l k d) = false) : ∀ x ∈ List.take (k + 1) l, p x = false := by
  intro x hm
  rw [take_succ d l k hk] at hm
  rcases List.mem_append.1 hm with h1 | h1
  · exact h x h1
  · rw [List.mem_singleton.1 h1]; exact hx
theorem same_step (d : α) (a b : List α) (k : Nat) (ha : k < a.length) (hb : k < b.length) (h : List.take k a = List.take k b) (hx : List.getD a k d = List.getD b k d) : List.take (k + 1) a = List.take (k + 1) b := by
  rw [take_succ d a k ha, take_succ d b k hb, h, hx]
theorem same_end (a b : List α) (k : Nat) (hl : a.length = b.length) (hk : a.length ≤ k) (h : List.take k a = List.take k b) : a = b := by
  rwa [List.take_of_length_le hk, List.take_of_length_le (by omega)] at h
end AL.Lib
namespace AL.Rune
open Go AL
set_option linter.unusedVariables false
set_option linter.unusedSimpArgs false
abbrev R := Nat × Bytes
def runesN : Nat → Bytes → List R
  | 0, _ => []
  | n + 1, s => if s = [] then [] else ((decS s 0).1, List.take (decS s 0).2 s) :: runesN n (List.drop (decS s 0).2 s)
def runesS (s : Bytes) : List R := runesN s.length s
def piecesS : Bytes → List Bytes
  | [] => [[]]
  | b :: s => if b = 47 then [] :: piecesS s else match piecesS s with
    | [] => [[b]]
    | p :: ps => (b :: p) :: ps
end AL.Rune
namespace AL.Route
open Go AL AL.Rune
set_option linter.unusedVariables false
set_option linter.unusedSimpArgs false
def runeOk (c : Int) : Bool :=
  (decide (97 ≤ c) && decide (c ≤ 122)) || (decide (65 ≤ c) && decide (c ≤ 90)) || (decide (48 ≤ c) && decide (c ≤ 57)) || decide (c = 45) || decide (c = 46) || decide (c = 95) || (decide (192 ≤ c) && decide (c ≤ 55295))
def okR (x : R) : Bool := runeOk (x.1 : Int)
def partS (s : Bytes) : Int :=
  if s = [] ∨ s = [46] ∨ s = [46, 46] ∨ s = [45] then 4 else if (runesS s).all okR = false then 4 else if 12 < (runesS s).length then 5 else 0
def gradedS (l : List Bytes) : Int :=
  if l.any (fun p => decide (partS p = 4)) = true then 4 else if l.any (fun p => decide (partS p = 5)) = true then 5 else if 6 < l.length then 24 else 0
def checkS (s : Bytes) : Int := if 64 < s.length then 5 else gradedS (piecesS s)
end AL.Route
namespace AL.Rows
open Go AL
set_option linter.unusedVariables false
set_option linter.unusedSimpArgs false
def nameB (b : UInt8) : Bool := (decide (97 ≤ b.toNat) && decide (b.toNat ≤ 122)) || (decide (48 ≤ b.toNat) && decide (b.toNat ≤ 57))
def namedS (s : Bytes) : Bool := decide (1 ≤ s.length) && (decide (s.length ≤ 8) && s.all nameB)
abbrev KeyV := Int × Bytes × Int
def MayK (k : KeyV) : Prop :=
  (k.1 = 1 ∧ Route.checkS k.2.1 = 0 ∧ k.2.2 = 0) ∨ (k.1 = 2 ∧ Route.checkS k.2.1 = 0 ∧ 1 ≤ k.2.2 ∧ k.2.2 ≤ 30) ∨ (k.1 = 3 ∧ namedS k.2.1 = true ∧ k.2.2 = 0) ∨ ((k.1 = 4 ∨ k.1 = 5) ∧ k.2.1 = [] ∧ k.2.2 = 0)
instance (k : KeyV) : Decidable (MayK k) := inferInstanceAs (Decidable (_ ∨ _))
end AL.Rows
namespace AL.Sep
open Go AL
set_option linter.unusedVariables false
def splitC (c : UInt8) : Bytes → List Bytes
  | [] => [[]]
  | b :: s => if b = c then [] :: splitC c s else match splitC c s with
    | [] => [[b]]
    | p :: ps => (b :: p) :: ps
def joinC (c : UInt8) : List Bytes → Bytes
  | [] => []
  | [p] => p
  | p :: q :: l => p ++ c :: joinC c (q :: l)
theorem split_ne (c : UInt8) (s : Bytes) : splitC c s ≠ [] := by
  cases s with
  | nil => simp [splitC]
  | cons b s =>
    unfold splitC
    split
    · simp
    · split <;> simp
theorem split_none {c : UInt8} : ∀ {a : Bytes}, c ∉ a → splitC c a = [a]
  | [], _ => rfl
  | b :: a, h => by
    simp only [List.mem_cons, not_or] at h
    unfold splitC
    rw [if_neg (fun e => h.1 e.symm), split_none h.2]
theorem split_app {c : UInt8} : ∀ {a : Bytes} (s : Bytes), c ∉ a → splitC c (a ++ c :: s) = a :: splitC c s
  | [], s, _ => by simp [splitC]
  | b :: a, s, h => by
    simp only [List.mem_cons, not_or] at h
    rw [List.cons_append, splitC, if_neg (fun e => h.1 e.symm), split_app s h.2]
theorem split_len (c : UInt8) (s : Bytes) : (splitC c s).length = s.count c + 1 := by
  induction s with
  | nil => rfl
  | cons b s ih =>
    unfold splitC
    by_cases e : b = c
    · rw [e, if_pos rfl, List.length_cons, ih, List.count_cons_self]
    · rw [if_neg e, List.count_cons_of_ne e]
      cases hp : splitC c s with
      | nil => exact absurd hp (split_ne c s)
      | cons p ps => rw [hp] at ih; simpa using ih
theorem join_split (c : UInt8) (s : Bytes) : joinC c (splitC c s) = s := by
  induction s with
  | nil => rfl
  | cons b s ih =>
    unfold splitC
    split
    · rename_i e
      rw [e]
      cases hp : splitC c s with
      | nil => exact absurd hp (split_ne c s)
      | cons p ps => rw [hp] at ih; show [] ++ c :: joinC c (p :: ps) = _; rw [ih]; rfl
    · split
      · rename_i hp; exact absurd hp (split_ne c s)
      · rename_i p ps hp
        rw [hp] at ih
        cases ps with
        | nil => show b :: p = _; rw [show p = s from ih]
        | cons q ps => show (b :: p) ++ c :: joinC c (q :: ps) = _; rw [← ih]; rfl
theorem split_join {c : UInt8} : ∀ {l : List Bytes}, (∀ p ∈ l, c ∉ p) → l ≠ [] → splitC c (joinC c l) = l
  | [], _, h => absurd rfl h
  | [p], h, _ => split_none (h p (by simp))
  | p :: q :: l, h, _ => by
    show splitC c (p ++ c :: joinC c (q :: l)) = _
    rw [split_app _ (h p (by simp)), split_join (fun x hx => h x (List.mem_cons_of_mem _ hx)) (by simp)]
theorem split_one {c : UInt8} {s : Bytes} : (splitC c s).length = 1 ↔ c ∉ s := by
  rw [split_len, ← List.count_eq_zero]; omega
theorem index_none {c : UInt8} {s : Bytes} (h : Go.Lib.indexByte s c < 0) : c ∉ s := by
  induction s with
  | nil => simp
  | cons b s ih =>
    unfold Go.Lib.indexByte at h
    split at h
    · omega
    · rename_i hb
      have hg := Go.Lib.indexByte_ge s c
      simp only [List.mem_cons, not_or]
      refine ⟨fun e => hb (by simp [e]), ih ?_⟩
      split at h
      · rename_i h1; simp only [beq_iff_eq] at h1; omega
      · omega
theorem index_some {c : UInt8} {s : Bytes} (h : 0 ≤ Go.Lib.indexByte s c) : (Go.Lib.indexByte s c).toNat < s.length ∧ c ∉ List.take (Go.Lib.indexByte s c).toNat s ∧ s = List.take (Go.Lib.indexByte s c).toNat s ++ c :: List.drop ((Go.Lib.indexByte s c).toNat + 1) s := by
  induction s with
  | nil => simp [Go.Lib.indexByte] at h
  | cons b s ih =>
    unfold Go.Lib.indexByte at h ⊢
    by_cases hb : b = c
    · rw [hb]; simp
    · have e1 : (b == c) = false := by simpa using hb
      rw [e1] at h ⊢
      simp only [Bool.false_eq_true, if_false] at h ⊢
      have hg := Go.Lib.indexByte_ge s c
      by_cases h1 : Go.Lib.indexByte s c = -1
      · rw [h1] at h; simp at h
      · rw [if_neg (by simpa using h1)] at h ⊢
        obtain ⟨i1, i2, i3⟩ := ih (by omega)
        have e : (Go.Lib.indexByte s c + 1).toNat = (Go.Lib.indexByte s c).toNat + 1 := by omega
        rw [e]
        refine ⟨by simp only [List.length_cons]; omega, ?_, ?_⟩
        · simp only [List.take_succ_cons, List.mem_cons, not_or]; exact ⟨fun q => hb q.symm, i2⟩
        · simp only [List.take_succ_cons, List.drop_succ_cons, List.cons_append]
          rw [← i3]
theorem index_rng (c : UInt8) (s : Bytes) : -1 ≤ Go.Lib.indexByte s c ∧ Go.Lib.indexByte s c < (s.length : Int) := by
  refine ⟨Go.Lib.indexByte_ge s c, ?_⟩
  by_cases h : 0 ≤ Go.Lib.indexByte s c
  · have := (index_some h).1; omega
  · omega
theorem mem_len {c : UInt8} {s p : Bytes} (h : p ∈ splitC c s) : p.length ≤ s.length := by
  have key : ∀ (l : List Bytes), p ∈ l → p.length ≤ (joinC c l).length := by
    intro l
    induction l with
    | nil => intro h; cases h
    | cons q l ih =>
      intro h
      cases l with
      | nil => rw [List.mem_singleton.1 h]; exact Nat.le_refl _
      | cons r l =>
        show _ ≤ (q ++ c :: joinC c (r :: l)).length
        simp only [List.length_append, List.length_cons]
        rcases List.mem_cons.1 h with rfl | h
        · omega
        · have := ih h; omega
  have := key _ h
  rwa [join_split] at this
theorem join_count (c : UInt8) : ∀ (l : List Bytes), l.length ≤ (joinC c l).length + 1
  | [] => by simp
  | [p] => by simp
  | p :: q :: l => by
    have ih := join_count c (q :: l)
    show (p :: q :: l).length ≤ (p ++ c :: joinC c (q :: l)).length + 1
    simp only [List.length_cons, List.length_append] at ih ⊢
    omega
theorem join_max {c : UInt8} {n : Nat} : ∀ (l : List Bytes), (∀ p ∈ l, p.length ≤ n) → (joinC c l).length ≤ l.length * (n + 1)
  | [], _ => by simp [joinC]
  | [p], h => by have := h p (by simp); simp [joinC]; omega
  | p :: q :: l, h => by
    have ih := join_max (c := c) (q :: l) (fun x hx => h x (List.mem_cons_of_mem _ hx))
    have := h p (by simp)
    show (p ++ c :: joinC c (q :: l)).length ≤ _
    simp only [List.length_cons, List.length_append] at ih ⊢
    rw [Nat.add_mul (l.length + 1) 1]
    omega
def cutAt (c : UInt8) (s : Bytes) : Bytes × Bytes × Bool := if 0 ≤ Go.Lib.indexByte s c then (List.take (Go.Lib.indexByte s c).toNat s, List.drop ((Go.Lib.indexByte s c).toNat + 1) s, true) else (s, [], false)
theorem gen_n (k : UInt8) (s : Bytes) : (min (((s.count k : Nat) : Int) + 1) ((List.length s : Int) + 1)).toNat = (splitC k s).length := by
  have h1 := split_len k s
  have h2 : s.count k ≤ s.length := List.count_le_length
  omega
theorem gen_more {k : UInt8} {c : Bytes} (h : 0 ≤ Go.Lib.indexByte c k) : splitC k c = List.take (Go.Lib.indexByte c k).toNat c :: splitC k (List.drop ((Go.Lib.indexByte c k).toNat + 1) c) := by
  obtain ⟨h1, h2, h3⟩ := index_some h
  conv => lhs; rw [h3]
  rw [split_app _ h2]
theorem set_rep (o : List Bytes) (n : Nat) (x : Bytes) : List.set (o ++ List.replicate (n + 1) []) o.length x = (o ++ [x]) ++ List.replicate n [] := by
  rw [List.set_append_right _ _ (Nat.le_refl _), Nat.sub_self, List.replicate_succ, List.set_cons_zero, List.append_assoc]; rfl
theorem gen_step {k : UInt8} {o : List Bytes} {c : Bytes} (h : 0 ≤ Go.Lib.indexByte c k) (x : Bytes) :
    List.set (o ++ List.replicate (splitC k c).length []) o.length x = (o ++ [x]) ++ List.replicate (splitC k (List.drop ((Go.Lib.indexByte c k).toNat + 1) c)).length [] := by
  rw [gen_more h, List.length_cons, set_rep]
theorem gen_inv {k : UInt8} {s c : Bytes} {o : List Bytes} (hP : splitC k s = o ++ splitC k c) (h : 0 ≤ Go.Lib.indexByte c k) : splitC k s = (o ++ [List.take (Go.Lib.indexByte c k).toNat c]) ++ splitC k (List.drop ((Go.Lib.indexByte c k).toNat + 1) c) := by
  rw [hP, gen_more h, List.append_assoc]; rfl
theorem gen_last {k : UInt8} {s c : Bytes} {o : List Bytes} (hP : splitC k s = o ++ splitC k c) (h : ¬ (o.length : Int) < ((splitC k s).length : Int) - 1) : k ∉ c := by
  have := congrArg List.length hP
  rw [List.length_append] at this
  have h1 := split_len k c
  exact split_one.1 (by omega)
theorem gen_end {k : UInt8} {s c : Bytes} {o : List Bytes} (hP : splitC k s = o ++ splitC k c) (hc : k ∉ c) : List.take (o.length + 1) (List.set (o ++ List.replicate (splitC k c).length []) o.length c) = splitC k s := by
  rw [hP, split_none hc]
  show List.take (o.length + 1) (List.set (o ++ List.replicate (0 + 1) []) o.length c) = _
  rw [set_rep]
  rw [List.replicate_zero, List.append_nil, List.take_of_length_le (by simp)]
theorem gen_le {k : UInt8} {s c : Bytes} {o : List Bytes} (hP : splitC k s = o ++ splitC k c) : o.length + (splitC k c).length = (splitC k s).length ∧ (splitC k s).length ≤ s.length + 1 ∧ 1 ≤ (splitC k c).length := by
  have h0 := congrArg List.length hP
  have h1 := split_len k s
  have h2 : s.count k ≤ s.length := List.count_le_length
  have h3 := split_len k c
  rw [List.length_append] at h0
  omega
end AL.Sep
namespace AL.Policy
open Go AL AL.Rune
open AL.Sep (splitC joinC cutAt)
set_option linter.unusedVariables false
set_option linter.unusedSimpArgs false
abbrev RuleV := Bytes × Int
def thereS (ahead : List RuleV) (p : Bytes) : Bool := ahead.any fun y => decide (y.1 = p)
def oneC (ahead : List RuleV) (x : RuleV) : Int :=
  if ¬ x.1 = [] ∧ ¬ Route.checkS x.1 = 0 then Route.checkS x.1 else if 63 < x.2 then 2 else if thereS ahead x.1 = true then 20 else 0
def chkC : List RuleV → List RuleV → Int
  | _, [] => 0
  | ahead, x :: l => if oneC ahead x = 0 then chkC (ahead ++ [x]) l else oneC ahead x
def checkP (l : List RuleV) : Int := if 4 < l.length then 24 else chkC [] l
def lets : Bytes := [114, 119, 100, 120, 108, 115]
def laysN (n : Nat) : Bytes := (List.range 6).flatMap fun i => if n / 2 ^ i % 2 = 1 then [List.getD lets i 0] else []
def layS (n : Int) : Bytes := laysN n.toNat
def pieceS (x : RuleV) : Bytes := (x.1 ++ [58]) ++ layS x.2
def textOf (l : List RuleV) : Bytes := joinC 44 (l.map pieceS)
def textP (l : List RuleV) : Bytes × Int := if checkP l = 0 then (textOf l, 0) else ([], checkP l)
theorem text_ok {l : List RuleV} (h : checkP l = 0) : textP l = (textOf l, 0) := if_pos h
theorem text_no {l : List RuleV} (h : ¬ checkP l = 0) : textP l = ([], checkP l) := if_neg h
def capsN (r : Bytes) : Option Nat := (List.range 64).find? fun n => decide (laysN n = r)
def capsR (r : Bytes) : Int × Bool := match capsN r with
  | some n => ((n : Int), true)
  | none => (0, false)
def scanP (s : Bytes) : RuleV × Bool := if (cutAt 58 s).2.2 = true ∧ (capsR (cutAt 58 s).2.1).2 = true then (((cutAt 58 s).1, (capsR (cutAt 58 s).2.1).1), true) else (([], 0), false)
def ruled (l : List Bytes) : List RuleV := l.map fun p => (scanP p).1
def fineS (l : List Bytes) : Bool := l.all fun p => (scanP p).2
def parseP (s : Bytes) : List RuleV × Int :=
  if s = [] then ([], 0) else if fineS (splitC 44 s) = true then (if checkP (ruled (splitC 44 s)) = 0 then (ruled (splitC 44 s), 0) else ([], checkP (ruled (splitC 44 s)))) else ([], 4)
theorem split_le (c : UInt8) (s : Bytes) : (splitC c s).length ≤ s.length + 1 := by
  have h1 := Sep.split_len c s
  have h2 : s.count c ≤ s.length := List.count_le_length
  omega
abbrev AskV := Bytes × Int
end AL.Policy
namespace AL.Ask
open Go AL
open AL.Sep (splitC joinC)
open AL.Policy (RuleV)
set_option linter.unusedVariables false
set_option linter.unusedSimpArgs false
def dg (k : Int) : UInt8 := UInt8.ofNat (48 + k.toNat)
def numS (n : Int) : Bytes := if n < 10 then [dg n] else if n < 100 then [dg (n / 10), dg (n % 10)] else [dg (n / 100), dg (n / 10 % 10), dg (n % 10)]
def digB (b : UInt8) : Bool := decide (48 ≤ b.toNat) && decide (b.toNat ≤ 57)
theorem digB_iff {b : UInt8} : digB b = true ↔ 48 ≤ b.toNat ∧ b.toNat ≤ 57 := by unfold digB; simp only [Bool.and_eq_true, decide_eq_true_eq]
def valS (s : Bytes) : Int := s.foldl (fun n b => 10 * n + ((b.toNat : Int) - 48)) 0
def sizeB (s : Bytes) : Bool := !(decide (s = []) || (decide (3 < s.length) || (decide (1 < s.length) && decide (List.getD s 0 0 = 48))))
def scanN (s : Bytes) : Int := if sizeB s = true ∧ s.all digB = true then valS s else -1
theorem num_big : ∀ n : Nat, n < 1000 → numS (n : Int) ≠ [] ∧ (numS (n : Int)).length ≤ 3 ∧ sizeB (numS (n : Int)) = true ∧ (numS (n : Int)).all digB = true ∧ valS (numS (n : Int)) = (n : Int) := by decide +kernel
theorem num_one : ∀ a, a < 10 → numS (valS [UInt8.ofNat (48 + a)]) = [UInt8.ofNat (48 + a)] ∧ valS [UInt8.ofNat (48 + a)] = (a : Int) := by decide +kernel
theorem num_two : ∀ a, a < 10 → ∀ b, b < 10 → valS [UInt8.ofNat (48 + a), UInt8.ofNat (48 + b)] = (10 * a + b : Nat) ∧ (a ≠ 0 → numS ((10 * a + b : Nat) : Int) = [UInt8.ofNat (48 + a), UInt8.ofNat (48 + b)]) := by decide +kernel
theorem num_three : ∀ a, a < 10 → ∀ b, b < 10 → ∀ c, c < 10 → valS [UInt8.ofNat (48 + a), UInt8.ofNat (48 + b), UInt8.ofNat (48 + c)] = (100 * a + 10 * b + c : Nat) ∧ (a ≠ 0 → numS ((100 * a + 10 * b + c : Nat) : Int) = [UInt8.ofNat (48 + a), UInt8.ofNat (48 + b), UInt8.ofNat (48 + c)]) := by decide +kernel
theorem dig_of {b : UInt8} (h : digB b = true) : ∃ a, a < 10 ∧ b = UInt8.ofNat (48 + a) := by
  have h := digB_iff.1 h
  refine ⟨b.toNat - 48, by omega, ?_⟩
  rw [show 48 + (b.toNat - 48) = b.toNat by omega]
  exact (UInt8.ofNat_toNat).symm
theorem scan_num {n : Int} (h0 : 0 ≤ n) (h1 : n ≤ 999) : scanN (numS n) = n := by
  obtain ⟨m, rfl⟩ := Int.eq_ofNat_of_zero_le h0
  obtain ⟨_, _, h3, h4, h5⟩ := num_big m (by omega)
  unfold scanN
  rw [if_pos ⟨h3, h4⟩, h5]
theorem num_len {n : Int} (h0 : 0 ≤ n) (h1 : n ≤ 999) : numS n ≠ [] ∧ (numS n).length ≤ 3 ∧ (numS n).all digB = true := by
  obtain ⟨m, rfl⟩ := Int.eq_ofNat_of_zero_le h0
  obtain ⟨h1, h2, _, h4, _⟩ := num_big m (by omega)
  exact ⟨h1, h2, h4⟩
theorem num_le3 (n : Int) : (numS n).length ≤ 3 := by
  unfold numS
  split
  · simp
  · split <;> simp
theorem num_scan {s : Bytes} (h : 0 ≤ scanN s) : numS (scanN s) = s ∧ scanN s ≤ 999 ∧ s.length ≤ 3 := by
  unfold scanN at *
  split at h
  · rename_i q
    rw [if_pos q]
    obtain ⟨q1, q2⟩ := q
    have q3 : ¬ s = [] ∧ s.length ≤ 3 ∧ (1 < s.length → ¬ List.getD s 0 0 = 48) := by
      unfold sizeB at q1
      simp only [Bool.not_eq_true', Bool.or_eq_false_iff, Bool.and_eq_false_iff, decide_eq_false_iff_not] at q1
      refine ⟨q1.1, by omega, fun h2 => ?_⟩
      rcases q1.2.2 with z | z
      · omega
      · exact z
    obtain ⟨q4, q5, q6⟩ := q3
    match s, q4, q5, q6, q2 with
    | [a], _, _, _, q2 =>
      simp only [List.all_cons, List.all_nil, Bool.and_true] at q2
      obtain ⟨x, hx, rfl⟩ := dig_of q2
      have := num_one x hx
      exact ⟨this.1, by rw [this.2]; omega, by simp⟩
    | [a, b], _, _, q6, q2 =>
      simp only [List.all_cons, List.all_nil, Bool.and_true, Bool.and_eq_true] at q2
      obtain ⟨x, hx, rfl⟩ := dig_of q2.1
      obtain ⟨y, hy, rfl⟩ := dig_of q2.2
      have := num_two x hx y hy
      rw [this.1]
      refine ⟨this.2 fun e => q6 (by simp) (by subst e; rfl), by omega, by simp⟩
    | [a, b, c], _, _, q6, q2 =>
      simp only [List.all_cons, List.all_nil, Bool.and_true, Bool.and_eq_true] at q2
      obtain ⟨x, hx, rfl⟩ := dig_of q2.1
      obtain ⟨y, hy, rfl⟩ := dig_of q2.2.1
      obtain ⟨z, hz, rfl⟩ := dig_of q2.2.2
      have := num_three x hx y hy z hz
      rw [this.1]
      refine ⟨this.2 fun e => q6 (by simp) (by subst e; rfl), by omega, by simp⟩
  · omega
theorem val_step (s : Bytes) (k : Nat) (h : k < s.length) : valS (List.take (k + 1) s) = 10 * valS (List.take k s) + (((List.getD s k 0).toNat : Int) - 48) := by
  rw [Lib.take_succ 0 s k h]
  unfold valS
  rw [List.foldl_append]; rfl
theorem val_rng (s : Bytes) : ∀ k, k ≤ 3 → k ≤ s.length → (List.take k s).all digB = true → 0 ≤ valS (List.take k s) ∧ valS (List.take k s) ≤ 10 ^ k - 1 := by
  intro k
  induction k with
  | zero => intro _ _ _; rw [List.take_zero]; exact ⟨Int.le_refl _, by decide⟩
  | succ k ih =>
    intro h3 hk ha
    rw [Lib.take_succ 0 s k (by omega), List.all_append, Bool.and_eq_true] at ha
    have hd := digB_iff.1 (show digB (List.getD s k 0) = true by
      have q := ha.2
      simp only [List.all_cons, List.all_nil, Bool.and_true] at q
      exact q)
    have := ih (by omega) (by omega) ha.1
    rw [val_step s k (by omega), Int.pow_succ]
    omega
def NumAt (n m : Int) (s : Bytes) : Prop := numS n = (if m = 0 then [] else numS m) ++ s
theorem numat_first : ∀ n : Nat, n < 1000 → numS (n : Int) = (if (n : Int) / 10 = 0 then [] else numS ((n : Int) / 10)) ++ [dg ((n : Int) % 10)] := by decide +kernel
theorem NumAt.first {n : Int} (h0 : 0 ≤ n) (h1 : n ≤ 999) : NumAt n (n / 10) [dg (n % 10)] := by
  obtain ⟨m, rfl⟩ := Int.eq_ofNat_of_zero_le h0
  exact numat_first m (by omega)
def hexD : Bytes := [48, 49, 50, 51, 52, 53, 54, 55, 56, 57, 97, 98, 99, 100, 101, 102]
def hexB (b : UInt8) : Bytes := [List.getD hexD (b.toNat / 16) 0, List.getD hexD (b.toNat % 16) 0]
def hexS (s : Bytes) : Bytes := s.flatMap hexB
def isH (b : UInt8) : Bool := (decide (48 ≤ b.toNat) && decide (b.toNat ≤ 57)) || (decide (97 ≤ b.toNat) && decide (b.toNat ≤ 102))
def digV (b : UInt8) : Int := if 48 ≤ b.toNat ∧ b.toNat ≤ 57 then (b.toNat : Int) - 48 else if 97 ≤ b.toNat ∧ b.toNat ≤ 102 then (b.toNat : Int) - 97 + 10 else -1
def pairB (a b : UInt8) : UInt8 := UInt8.ofNat (16 * digV a + digV b).toNat
def unpairs : Bytes → Bytes
  | a :: b :: r => pairB a b :: unpairs r
  | _ => []
def unhexS (s : Bytes) : Bytes × Bool := if s.length % 2 = 0 ∧ s.all isH = true then (unpairs s, true) else ([], false)
theorem dig_is (b : UInt8) : isH b = true ↔ 0 ≤ digV b := by
  unfold isH digV
  simp only [Bool.or_eq_true, Bool.and_eq_true, decide_eq_true_eq]
  constructor
  · rintro (h | h)
    · rw [if_pos h]; omega
    · split
      · omega
      · first
        | omega
        | (rw [if_pos h]; omega)
  · intro h
    split at h
    · rename_i q; exact .inl q
    · split at h
      · rename_i q; exact .inr q
      · omega
theorem dig_rng (b : UInt8) : -1 ≤ digV b ∧ digV b ≤ 15 := by
  unfold digV
  split
  · omega
  · split <;> omega
theorem hex_len (s : Bytes) : (hexS s).length = 2 * s.length := by
  induction s with
  | nil => rfl
  | cons b s ih => unfold hexS at *; rw [List.flatMap_cons, List.length_append, ih]; simp only [hexB, List.length_cons, List.length_nil]; omega
theorem hex_step (s : Bytes) (k : Nat) (h : k < s.length) : hexS (List.take k s) ++ hexB (List.getD s k 0) = hexS (List.take (k + 1) s) := by
  rw [Lib.take_succ 0 s k h]
  unfold hexS
  rw [List.flatMap_append, List.flatMap_cons, List.flatMap_nil, List.append_nil]
theorem hex_pair : ∀ n, n < 256 → pairB (List.getD hexD (n / 16) 0) (List.getD hexD (n % 16) 0) = UInt8.ofNat n ∧ isH (List.getD hexD (n / 16) 0) = true ∧ isH (List.getD hexD (n % 16) 0) = true := by decide +kernel
theorem hex_all (s : Bytes) : (hexS s).all isH = true := by
  induction s with
  | nil => rfl
  | cons b s ih =>
    unfold hexS at *
    have := hex_pair b.toNat b.toNat_lt
    rw [List.flatMap_cons, List.all_append, ih]
    simp only [hexB, List.all_cons, List.all_nil, this.2.1, this.2.2, Bool.and_true]
theorem un_hex (s : Bytes) : unpairs (hexS s) = s := by
  induction s with
  | nil => rfl
  | cons b s ih =>
    have := (hex_pair b.toNat b.toNat_lt).1
    show pairB (List.getD hexD (b.toNat / 16) 0) (List.getD hexD (b.toNat % 16) 0) :: unpairs (hexS s) = b :: s
    rw [ih, this, UInt8.ofNat_toNat]
theorem unhex_hex (s : Bytes) : unhexS (hexS s) = (s, true) := by
  unfold unhexS
  rw [if_pos ⟨by rw [hex_len]; omega, hex_all s⟩, un_hex]
theorem pair_hex : ∀ a, a < 256 → isH (UInt8.ofNat a) = true → ∀ b, b < 256 → isH (UInt8.ofNat b) = true → hexB (pairB (UInt8.ofNat a) (UInt8.ofNat b)) = [UInt8.ofNat a, UInt8.ofNat b] := by
  have key : ∀ a ∈ hexD, ∀ b ∈ hexD, hexB (pairB a b) = [a, b] := by decide +kernel
  have mem : ∀ a, a < 256 → isH (UInt8.ofNat a) = true → UInt8.ofNat a ∈ hexD := by decide +kernel
  intro a ha h b hb h2
  exact key _ (mem a ha h) _ (mem b hb h2)
theorem hex_un : ∀ (n : Nat) (s : Bytes), s.length = 2 * n → s.all isH = true → hexS (unpairs s) = s
  | 0, s, h, _ => by rw [List.eq_nil_of_length_eq_zero (by omega : s.length = 0)]; rfl
  | n + 1, a :: b :: r, h, ha => by
    simp only [List.all_cons, Bool.and_eq_true] at ha
    have h1 := hex_un n r (by simp only [List.length_cons] at h; omega) ha.2.2
    have h2 := pair_hex a.toNat a.toNat_lt (by rw [UInt8.ofNat_toNat]; exact ha.1) b.toNat b.toNat_lt (by rw [UInt8.ofNat_toNat]; exact ha.2.1)
    rw [UInt8.ofNat_toNat, UInt8.ofNat_toNat] at h2
    show hexB (pairB a b) ++ hexS (unpairs r) = _
    rw [h1, h2]; rfl
  | n + 1, [], h, _ => by simp at h
  | n + 1, [a], h, _ => by simp only [List.length_cons, List.length_nil] at h; omega
theorem hex_unhex {s : Bytes} (h : (unhexS s).2 = true) : hexS (unhexS s).1 = s := by
  unfold unhexS at *
  split at h
  · rename_i q
    rw [if_pos q]
    exact hex_un (s.length / 2) s (by omega) q.2
  · cases h
theorem un_len : ∀ (s : Bytes), (unpairs s).length ≤ s.length
  | [] => Nat.le_refl _
  | [a] => Nat.zero_le _
  | a :: b :: r => by
    have := un_len r
    show (pairB a b :: unpairs r).length ≤ _
    simp only [List.length_cons]; omega
theorem un_step : ∀ (k : Nat) (s : Bytes), 2 * k + 1 < s.length → unpairs (List.take (2 * k) s) ++ [pairB (List.getD s (2 * k) 0) (List.getD s (2 * k + 1) 0)] = unpairs (List.take (2 * (k + 1)) s)
  | 0, a :: b :: r, _ => rfl
  | k + 1, a :: b :: r, h => by
    have ih := un_step k r (by simp only [List.length_cons] at h; omega)
    rw [show 2 * (k + 1) = 2 * k + 2 by omega, show 2 * (k + 1 + 1) = 2 * (k + 1) + 2 by omega]
    show pairB a b :: unpairs (List.take (2 * k) r) ++ [pairB (List.getD r (2 * k) 0) (List.getD r (2 * k + 1) 0)] = pairB a b :: unpairs (List.take (2 * (k + 1)) r)
    rw [← ih]; rfl
  | _, [], h => by simp at h
  | _, [a], h => by simp only [List.length_cons, List.length_nil] at h; omega
def HexTo (s : Bytes) (k : Nat) : Prop := (List.take (2 * k) s).all isH = true
theorem hexto_step {s : Bytes} {k : Nat} (h : 2 * k + 1 < s.length) (hN : HexTo s k) (h1 : ¬ digV (List.getD s (2 * k) 0) < 0) (h2 : ¬ digV (List.getD s (2 * k + 1) 0) < 0) : HexTo s (k + 1) := by
  unfold HexTo at *
  rw [show 2 * (k + 1) = 2 * k + 1 + 1 by omega, Lib.take_succ 0 s _ (by omega), Lib.take_succ 0 s _ (by omega), List.all_append, List.all_append, hN]
  simp only [List.all_cons, List.all_nil, Bool.and_true, Bool.true_and, Bool.and_eq_true]
  exact ⟨(dig_is _).2 (by omega), (dig_is _).2 (by omega)⟩
theorem unhex_bad {s : Bytes} {k : Nat} (h : k < s.length) (h1 : digV (List.getD s k 0) < 0) : unhexS s = ([], false) := by
  refine if_neg fun q => ?_
  have := (dig_is _).1 (List.all_eq_true.1 q.2 _ (Lib.getD_mem 0 s k h))
  omega
theorem unhex_odd {s : Bytes} (h : ¬ s.length % 2 = 0) : unhexS s = ([], false) := if_neg fun q => h q.1
theorem unhex_end {s : Bytes} {k : Nat} (h : s.length = 2 * k) (hN : HexTo s k) : unhexS s = (unpairs (List.take (2 * k) s), true) := by
  unfold HexTo at hN
  rw [List.take_of_length_le (by omega)] at *
  exact if_pos ⟨by omega, hN⟩
end AL.Ask
namespace AL.Ask
open Go AL
open AL.Sep (splitC joinC)
open AL.Policy (RuleV textP parseP checkP)
open AL.Rows (namedS)
set_option linter.unusedVariables false
set_option linter.unusedSimpArgs false
structure AskV where
  op : Int
  token : Bytes
  path : Bytes
  other : Bytes
  n : Int
  cas : Int
  flag : Bool
  ns : List Int
  data : Bytes
  rules : List RuleV
  key : Bytes
theorem AskV.eq_iff (a b : AskV) : a = b ↔ a.op = b.op ∧ a.token = b.token ∧ a.path = b.path ∧ a.other = b.other ∧ a.n = b.n ∧ a.cas = b.cas ∧ a.flag = b.flag ∧ a.ns = b.ns ∧ a.data = b.data ∧ a.rules = b.rules ∧ a.key = b.key := by
  constructor
  · intro h; subst h; simp
  · intro h; cases a; cases b; simp_all
instance : DecidableEq AskV := fun a b => decidable_of_iff _ (AskV.eq_iff a b).symm
def askd : AskV := ⟨0, [], [], [], 0, 0, false, [], [], [], []⟩
def wordsL : List Bytes := [[], [115, 116, 97, 116, 117, 115], [117, 110, 115, 101, 97, 108], [115, 101, 97, 108], [114, 111, 116, 97, 116, 101], [109, 111, 117, 110, 116], [117, 110, 109, 111, 117, 110, 116], [109, 97, 107, 101], [114, 101, 118, 111, 107, 101], [114, 101, 97, 100], [119, 114, 105, 116, 101], [100, 101, 108, 101, 116, 101], [117, 110, 100, 101, 108, 101, 116, 101], [100, 101, 115, 116, 114, 111, 121], [109, 101, 116, 97], [99, 111, 110, 102, 105, 103], [112, 117, 114, 103, 101], [108, 105, 115, 116], [99, 111, 112, 121]]
def kindsL : List Bytes := [[], [], [107], [116], [116], [116, 112, 110, 102], [116, 112], [116, 109, 114], [116, 109], [116, 112, 110], [116, 112, 99, 100], [116, 112, 108], [116, 112, 108], [116, 112, 108], [116, 112], [116, 112, 110, 102], [116, 112], [116, 112], [116, 112, 113]]
def wordS (op : Int) : Bytes := List.getD wordsL op.toNat []
def kindS (op : Int) : Bytes := List.getD kindsL op.toNat []
def LetI (c : Int) : Prop := c = 116 ∨ c = 112 ∨ c = 109 ∨ c = 113 ∨ c = 110 ∨ c = 99 ∨ c = 102 ∨ c = 108 ∨ c = 100 ∨ c = 114 ∨ c = 107
instance (c : Int) : Decidable (LetI c) := inferInstanceAs (Decidable (_ ∨ _))
def Apart (c d : Int) : Prop := c ≠ d ∧ ¬ (c = 109 ∧ d = 113) ∧ ¬ (c = 113 ∧ d = 109)
instance (c d : Int) : Decidable (Apart c d) := inferInstanceAs (Decidable (_ ∧ _))
theorem words_len : wordsL.length = 19 ∧ kindsL.length = 19 := by decide
def fineS (b : Bool) : Int := if b = true then 0 else 4
def withinI (n lo hi : Int) : Bool := decide (lo ≤ n) && decide (n ≤ hi)
def okNs (l : List Int) : Bool := decide (l.length ≤ 6) && l.all fun n => withinI n 1 999
def fieldS (a : AskV) (c : Int) : Int :=
  if c = 116 then fineS (namedS a.token) else if c = 109 then fineS (namedS a.other) else if c = 112 then Route.checkS a.path else if c = 113 then Route.checkS a.other else if c = 110 then fineS (withinI a.n 0 999) else
  if c = 99 then fineS (withinI a.cas (-1) 999) else if c = 108 then fineS (okNs a.ns) else if c = 114 then checkP a.rules else if c = 107 then fineS (decide (a.key.length = 16)) else 0
def withoutS (a : AskV) (c : Int) : AskV :=
  if c = 116 then { a with token := [] } else if c = 112 then { a with path := [] } else if c = 109 ∨ c = 113 then { a with other := [] } else if c = 110 then { a with n := 0 } else if c = 99 then { a with cas := 0 } else
  if c = 102 then { a with flag := false } else if c = 108 then { a with ns := [] } else if c = 100 then { a with data := [] } else if c = 114 then { a with rules := [] } else if c = 107 then { a with key := [] } else a
def orN (s : Bytes) : Bytes := if s = [] then [45] else s
def listS (l : List Int) : Bytes := joinC 44 (l.map numS)
def layA (a : AskV) (c : Int) : Bytes :=
  if c = 116 then a.token else if c = 112 then a.path else if c = 109 ∨ c = 113 then a.other else if c = 110 then numS a.n else if c = 99 then (if a.cas = -1 then [45] else numS a.cas) else
  if c = 102 then (if a.flag = true then [49] else [48]) else if c = 108 then orN (listS a.ns) else if c = 100 then orN (hexS a.data) else if c = 114 then orN (textP a.rules).1 else hexS a.key
def numbersS (s : Bytes) : List Int := (splitC 44 s).map scanN
def readA (a : AskV) (c : Int) (s : Bytes) : AskV × Int :=
  if c = 116 then ({ a with token := s }, fineS (namedS s)) else if c = 112 then ({ a with path := s }, Route.checkS s) else if c = 109 then ({ a with other := s }, fineS (namedS s)) else if c = 113 then ({ a with other := s }, Route.checkS s) else
  if c = 110 then ({ a with n := scanN s }, fineS (withinI (scanN s) 0 999)) else if c = 99 then (if s = [45] then ({ a with cas := -1 }, 0) else ({ a with cas := scanN s }, fineS (decide (0 ≤ scanN s)))) else
  if c = 102 then ({ a with flag := decide (s = [49]) }, fineS (decide (s = [49]) || decide (s = [48]))) else if c = 108 then (if s = [45] then (a, fineS (okNs a.ns)) else ({ a with ns := numbersS s }, fineS (okNs (numbersS s)))) else
  if c = 100 then (if s = [45] then (a, 0) else ({ a with data := (unhexS s).1 }, fineS ((unhexS s).2 && !decide (s = [])))) else if c = 114 then (if s = [45] then (a, 0) else if s = [] then (a, 4) else ({ a with rules := (parseP s).1 }, (parseP s).2)) else
  if c = 107 then ({ a with key := (unhexS s).1 }, fineS ((unhexS s).2 && decide ((unhexS s).1.length = 16))) else (a, 0)
end AL.Ask
namespace AL.Ask
open Go AL
open AL.Sep (splitC joinC)
open AL.Policy (RuleV textP parseP checkP)
open AL.Rows (namedS)
set_option linter.unusedVariables false
set_option linter.unusedSimpArgs false
theorem dig_32 {b : UInt8} (h : digB b = true) : b ≠ 32 ∧ b ≠ 44 ∧ b ≠ 45 := by
  have := digB_iff.1 h
  refine ⟨fun e => ?_, fun e => ?_, fun e => ?_⟩ <;> (subst e; revert this; decide)
theorem num_no {n : Int} (h0 : 0 ≤ n) (h1 : n ≤ 999) : (32 : UInt8) ∉ numS n ∧ (44 : UInt8) ∉ numS n := by
  have := (num_len h0 h1).2.2
  rw [List.all_eq_true] at this
  exact ⟨fun q => (dig_32 (this _ q)).1 rfl, fun q => (dig_32 (this _ q)).2.1 rfl⟩
theorem isH_32 {b : UInt8} (h : isH b = true) : b ≠ 32 ∧ b ≠ 45 := by
  refine ⟨fun e => ?_, fun e => ?_⟩ <;> (subst e; exact absurd h (by decide))
theorem hex_no (s : Bytes) : (32 : UInt8) ∉ hexS s ∧ hexS s ≠ [45] := by
  have := List.all_eq_true.1 (hex_all s)
  refine ⟨fun q => (isH_32 (this _ q)).1 rfl, fun e => ?_⟩
  rw [e] at this
  exact absurd (this 45 (by simp)) (by decide)
theorem hex_nil {s : Bytes} : hexS s = [] ↔ s = [] := by
  constructor
  · intro h
    have := hex_len s
    rw [h] at this
    exact List.eq_nil_of_length_eq_zero (by simp at this; omega)
  · intro h; subst h; rfl
theorem ns_mem {l : List Int} (h : okNs l = true) : l.length ≤ 6 ∧ ∀ n ∈ l, 1 ≤ n ∧ n ≤ 999 := by
  unfold okNs withinI at h
  simp only [Bool.and_eq_true, decide_eq_true_eq, List.all_eq_true] at h
  exact h
theorem list_mem {l : List Int} (h : okNs l = true) {b : UInt8} (hb : b ∈ listS l) : b = 44 ∨ digB b = true := by
  have key : ∀ (m : List Int), (∀ n ∈ m, 1 ≤ n ∧ n ≤ 999) → b ∈ joinC 44 (m.map numS) → b = 44 ∨ digB b = true := by
    intro m
    induction m with
    | nil => intro _ hb; cases hb
    | cons n m ih =>
      intro hm hb
      have hn := hm n (by simp)
      have hd := List.all_eq_true.1 (num_len (n := n) (by omega) (by omega)).2.2
      cases m with
      | nil => exact .inr (hd _ hb)
      | cons k m =>
        have hb : b ∈ numS n ++ 44 :: joinC 44 ((k :: m).map numS) := hb
        rcases List.mem_append.1 hb with hb | hb
        · exact .inr (hd _ hb)
        · rcases List.mem_cons.1 hb with hb | hb
          · exact .inl hb
          · exact ih (fun x hx => hm x (List.mem_cons_of_mem _ hx)) hb
  exact key l (ns_mem h).2 hb
theorem list_no {l : List Int} (h : okNs l = true) : (32 : UInt8) ∉ listS l ∧ listS l ≠ [45] := by
  refine ⟨fun q => ?_, fun e => ?_⟩
  · rcases list_mem h q with q | q
    · exact absurd q (by decide)
    · exact absurd q (by decide)
  · rcases list_mem (b := 45) h (by rw [e]; simp) with q | q
    · exact absurd q (by decide)
    · exact absurd q (by decide)
end AL.Ask
namespace AL.Ask
open Go AL
open AL.Sep (splitC joinC)
open AL.Policy (RuleV textP parseP checkP)
open AL.Rows (namedS)
set_option linter.unusedVariables false
set_option linter.unusedSimpArgs false
def fieldsC (a : AskV) : Bytes → Int
  | [] => 0
  | c :: l => if fieldS a (c.toNat : Int) = 0 then fieldsC a l else fieldS a (c.toNat : Int)
def bareF (a : AskV) (l : Bytes) : AskV := l.foldl (fun x c => withoutS x (c.toNat : Int)) { a with op := 0 }
def lineF (a : AskV) (l : Bytes) : Bytes := wordS a.op ++ l.flatMap fun c => 32 :: layA a (c.toNat : Int)
def lineA (a : AskV) : Bytes := lineF a (kindS a.op)
def checkA (a : AskV) : Int :=
  if wordS a.op = [] then 22 else if ¬ fieldsC a (kindS a.op) = 0 then fieldsC a (kindS a.op) else if ¬ bareF a (kindS a.op) = askd then 2 else if 400 < (lineA a).length then 5 else 0
def textA (a : AskV) : Bytes × Int := if checkA a = 0 then (lineA a, 0) else ([], checkA a)
theorem text_ok {a : AskV} (h : checkA a = 0) : textA a = (lineA a, 0) := if_pos h
theorem text_no {a : AskV} (h : ¬ checkA a = 0) : textA a = ([], checkA a) := if_neg h
end AL.Ask
namespace AL.Ask
open Go AL
open AL.Sep (splitC joinC)
open AL.Policy (RuleV textP parseP checkP)
open AL.Rows (namedS)
set_option linter.unusedVariables false
set_option linter.unusedSimpArgs false
theorem tmod_10 {n : Int} (h : 0 ≤ n) : Int.tmod n 10 = n % 10 ∧ 0 ≤ n % 10 ∧ n % 10 < 10 := ⟨Int.tmod_eq_emod_of_nonneg h, by omega, by omega⟩
theorem tdiv_10 {n : Int} (h : 0 ≤ n) : Int.tdiv n 10 = n / 10 := Int.tdiv_eq_ediv_of_nonneg h
theorem NumAt.len {n m : Int} {t : Bytes} (h : NumAt n m t) : t.length ≤ 3 := by
  have := num_le3 n
  unfold NumAt at h
  rw [h, List.length_append] at this
  omega
theorem pow_le3 {p : Nat} (h : p ≤ 3) : (10 : Int) ^ p ≤ 1000 := by
  have : p = 0 ∨ p = 1 ∨ p = 2 ∨ p = 3 := by omega
  rcases this with q | q | q | q <;> subst q <;> decide
theorem wrap_u8 {n : Int} (h : 0 ≤ n) (h2 : n < 256) : IntKind.wrap .u8 n = n := by
  simp [IntKind.wrap, IntKind.signed, IntKind.bits]
  omega
theorem dig_1 {b : UInt8} (h : 48 ≤ (b.toNat : Int) ∧ (b.toNat : Int) ≤ 57) : digV b = (b.toNat : Int) - 48 := if_pos (by omega)
theorem dig_2 {b : UInt8} (h : 97 ≤ (b.toNat : Int) ∧ (b.toNat : Int) ≤ 102) : digV b = (b.toNat : Int) - 97 + 10 := by
  unfold digV; rw [if_neg (by omega), if_pos (by omega)]
theorem dig_3 {b : UInt8} (h : ¬ (48 ≤ (b.toNat : Int) ∧ (b.toNat : Int) ≤ 57) ∧ ¬ (97 ≤ (b.toNat : Int) ∧ (b.toNat : Int) ≤ 102)) : digV b = -1 := by
  unfold digV; rw [if_neg (by omega), if_neg (by omega)]
theorem hex_idx : ∀ n : Nat, n < 256 → (0 ≤ Int.fdiv (n : Int) (2 ^ (min (4 : Int).toNat (IntKind.bits .u8))) ∧ Int.fdiv (n : Int) (2 ^ (min (4 : Int).toNat (IntKind.bits .u8))) < 16) ∧ 0 ≤ IntKind.wrap .u8 ((BitVec.ofInt 8 (n : Int) &&& BitVec.ofInt 8 15).toNat) ∧ IntKind.wrap .u8 ((BitVec.ofInt 8 (n : Int) &&& BitVec.ofInt 8 15).toNat) < 16 := by decide +kernel
theorem hex_ix : ∀ n : Nat, n < 256 → (Int.fdiv (n : Int) (2 ^ (min (4 : Int).toNat (IntKind.bits .u8)))).toNat = n / 16 ∧ (IntKind.wrap .u8 ((BitVec.ofInt 8 (n : Int) &&& BitVec.ofInt 8 15).toNat)).toNat = n % 16 := by decide +kernel
theorem hex_two (b : UInt8) : flat 1 rowU8 (hexB b) = [AC.s (u8 ((List.getD ([48, 49, 50, 51, 52, 53, 54, 55, 56, 57, 97, 98, 99, 100, 101, 102] : List UInt8) (Int.fdiv (b.toNat : Int) (2 ^ (min (4 : Int).toNat (IntKind.bits .u8)))).toNat 0).toNat : Int)), AC.s (u8 ((List.getD ([48, 49, 50, 51, 52, 53, 54, 55, 56, 57, 97, 98, 99, 100, 101, 102] : List UInt8) (IntKind.wrap .u8 ((BitVec.ofInt 8 (b.toNat : Int) &&& BitVec.ofInt 8 15).toNat)).toNat 0).toNat : Int))] := by
  obtain ⟨h1, h2⟩ := hex_ix b.toNat b.toNat_lt
  rw [h1, h2]; rfl
theorem pair_val : ∀ x : Nat, x < 16 → ∀ y : Nat, y < 16 → IntKind.wrap .u8 (IntKind.wrap .i64 ((BitVec.ofInt 64 ((x : Int) * 2 ^ (min (4 : Int).toNat (IntKind.bits .i64))) ||| BitVec.ofInt 64 (y : Int)).toNat)) = ((UInt8.ofNat (16 * x + y)).toNat : Int) := by decide +kernel
theorem one_pair {a b : UInt8} (h1 : 0 ≤ digV a) (h2 : 0 ≤ digV b) : flat 1 rowU8 [pairB a b] = [AC.s (u8 (IntKind.wrap .u8 (IntKind.wrap .i64 ((BitVec.ofInt 64 (digV a * 2 ^ (min (4 : Int).toNat (IntKind.bits .i64))) ||| BitVec.ofInt 64 (digV b)).toNat))))] := by
  have ra := dig_rng a
  have rb := dig_rng b
  unfold pairB
  obtain ⟨x, hx⟩ := Int.eq_ofNat_of_zero_le h1
  obtain ⟨y, hy⟩ := Int.eq_ofNat_of_zero_le h2
  rw [hx, hy, pair_val x (by omega) y (by omega), show (16 * (x : Int) + (y : Int)).toNat = 16 * x + y by omega]; rfl
theorem same_eq {a b : AskV} (h : a.ns = b.ns ∧ a.rules = b.rules) : decide (a = b) = (((((((((decide (a.op = b.op)) && (decide (a.token = b.token))) && (decide (a.path = b.path))) && (decide (a.other = b.other))) && (decide (a.n = b.n))) && (decide (a.cas = b.cas))) && (a.flag == b.flag)) && (decide (a.data = b.data))) && (decide (a.key = b.key))) := by
  rw [Bool.eq_iff_iff]
  simp only [decide_eq_true_eq, Bool.and_eq_true, beq_iff_eq]
  rw [AskV.eq_iff]
  constructor
  · rintro ⟨h1, h2, h3, h4, h5, h6, h7, _, h8, _, h9⟩
    exact ⟨⟨⟨⟨⟨⟨⟨⟨h1, h2⟩, h3⟩, h4⟩, h5⟩, h6⟩, h7⟩, h8⟩, h9⟩
  · rintro ⟨⟨⟨⟨⟨⟨⟨⟨h1, h2⟩, h3⟩, h4⟩, h5⟩, h6⟩, h7⟩, h8⟩, h9⟩
    exact ⟨h1, h2, h3, h4, h5, h6, h7, h.1, h8, h.2, h9⟩
theorem tmod_2 (n : Nat) : Int.tmod (n : Int) 2 = ((n % 2 : Nat) : Int) := by rw [Int.tmod_eq_emod_of_nonneg (by omega)]; omega
theorem tdiv_2 (n : Nat) : Int.tdiv (n : Int) 2 = ((n / 2 : Nat) : Int) := by rw [Int.tdiv_eq_ediv_of_nonneg (by omega)]; omega
end AL.Ask
namespace AL.Secret
open Go AL
set_option linter.unusedVariables false
set_option linter.unusedSimpArgs false
abbrev RowV := Int × Bool × Bool
abbrev Sec := Int × Bool × Int × List RowV
abbrev Rul := Int × Bool
def rowR (x : RowV) (i : Nat) : SC := match i with | 0 => i6 x.1 | 1 => bo x.2.1 | _ => bo x.2.2
abbrev slR (l : List RowV) : SC := .sl 3 RowV (0, false, false) rowR l
def rowSec (s : Sec) (i : Nat) : SC := match i with | 0 => i6 s.1 | 1 => bo s.2.1 | 2 => i6 s.2.2.1 | _ => slR s.2.2.2
def loose : Rul := (6, false)
def keepS (s : Sec) (r : Rul) : Int := if s.1 = 0 then r.1 else s.1
def riseS (a : Int) : List RowV → Bool
  | [] => true
  | x :: l => decide (a < x.1) && riseS x.1 l
def newS (l : List RowV) : Int := (List.getD l (l.length - 1) (0, false, false)).1
def RangeS (s : Sec) (r : Rul) : Prop := 1 ≤ r.1 ∧ r.1 ≤ 6 ∧ 0 ≤ s.1 ∧ s.1 ≤ 6 ∧ 0 ≤ s.2.2.1 ∧ s.2.2.1 ≤ 30
instance (s : Sec) (r : Rul) : Decidable (RangeS s r) := inferInstanceAs (Decidable (_ ∧ _))
def May (s : Sec) (r : Rul) : Prop := RangeS s r ∧ (s.2.2.2.length : Int) ≤ keepS s r ∧ riseS 0 s.2.2.2 = true ∧ newS s.2.2.2 = s.2.2.1
instance (s : Sec) (r : Rul) : Decidable (May s r) := inferInstanceAs (Decidable (_ ∧ _))
def checkS (s : Sec) (r : Rul) : Int := if May s r then 0 else 2
theorem check_may {s : Sec} {r : Rul} : checkS s r = 0 ↔ May s r := by unfold checkS; split <;> simp_all
theorem check_yes {s : Sec} {r : Rul} (h : May s r) : checkS s r = 0 := if_pos h
theorem check_no {s : Sec} {r : Rul} (h : ¬ May s r) : checkS s r = 2 := if_neg h
theorem rise_go {a : Int} {l : List RowV} {k : Nat} (h : k < l.length) : riseS a (List.drop k l) = (decide (a < (List.getD l k (0, false, false)).1) && riseS (List.getD l k (0, false, false)).1 (List.drop (k + 1) l)) := by
  rw [Lib.drop_cons (0, false, false) l k h]; rfl
theorem rise_end {a : Int} {l : List RowV} {k : Nat} (h : l.length ≤ k) : riseS a (List.drop k l) = true := by rw [List.drop_of_length_le h]; rfl
theorem rise_mem : ∀ {l : List RowV} {a : Int}, riseS a l = true → ∀ x ∈ l, a < x.1
  | [], _, _, x, hx => by cases hx
  | y :: l, a, h, x, hx => by
    simp only [riseS, Bool.and_eq_true, decide_eq_true_eq] at h
    rcases List.mem_cons.1 hx with rfl | hx
    · exact h.1
    · have := rise_mem h.2 x hx; omega
theorem new_cons (x y : RowV) (l : List RowV) : newS (x :: y :: l) = newS (y :: l) := by simp [newS]
theorem rise_new : ∀ {l : List RowV} {a : Int}, riseS a l = true → ∀ x ∈ l, x.1 ≤ newS l
  | [], _, _, x, hx => by cases hx
  | [y], a, h, x, hx => by rw [List.mem_singleton.1 hx]; exact Int.le_refl _
  | y :: z :: l, a, h, x, hx => by
    simp only [riseS, Bool.and_eq_true, decide_eq_true_eq] at h
    rw [new_cons]
    have h2 : riseS y.1 (z :: l) = true := by simp only [riseS, Bool.and_eq_true, decide_eq_true_eq]; exact h.2
    rcases List.mem_cons.1 hx with rfl | hx
    · have h3 := rise_new h2 z (List.mem_cons_self ..)
      omega
    · exact rise_new h2 x hx
theorem new_nil : newS [] = 0 := rfl
theorem new_at {l : List RowV} : newS l = (List.getD l (((List.length l : Int)) - 1).toNat (0, false, false)).1 := by
  unfold newS; congr 2; omega
def findR (s : Sec) (n : Int) : Int := if n = 0 then (List.length s.2.2.2 : Int) - 1 else Lib.idxS (fun x : RowV => decide (x.1 = n)) s.2.2.2
def readS (s : Sec) (n : Int) : RowV × Int :=
  if ¬ checkS s loose = 0 then ((0, false, false), 2) else if findR s n < 0 then ((0, false, false), 6) else
  (List.getD s.2.2.2 (findR s n).toNat (0, false, false), if (List.getD s.2.2.2 (findR s n).toNat (0, false, false)).2.1 = true ∨ (List.getD s.2.2.2 (findR s n).toNat (0, false, false)).2.2 = true then 21 else 0)
def Meant (ns : List Int) (i n : Nat) (x : RowV) : Prop := x.1 ∈ ns ∨ (ns = [] ∧ i + 1 = n)
instance (ns : List Int) (i n : Nat) (x : RowV) : Decidable (Meant ns i n x) := inferInstanceAs (Decidable (_ ∨ _))
theorem same_eq (a b : Sec) : decide (a = b) = (((decide (a.1 = b.1) && (a.2.1 == b.2.1)) && decide (a.2.2.1 = b.2.2.1)) && decide (a.2.2.2 = b.2.2.2)) := by
  rw [Bool.eq_iff_iff]; simp [Prod.ext_iff, and_assoc]
end AL.Secret
namespace AL.Reply
open Go AL
open AL.Sep (splitC joinC)
open AL.Ask (numS scanN valS sizeB digB hexS unhexS dg)
open AL.Secret (RowV Sec slR rowR)
set_option linter.unusedVariables false
set_option linter.unusedSimpArgs false
structure RepV where
  kind : Int
  err : Int
  n : Int
  data : Bytes
  names : List Bytes
  sec : Sec
  flag : Bool
deriving DecidableEq
def repd : RepV := ⟨0, 0, 0, [], [], (0, false, 0, []), false⟩
def sufS (c : UInt8) (s : Bytes) : Bool := decide (s ≠ [] ∧ List.getD s (s.length - 1) 0 = c)
def cutS (c : UInt8) (s : Bytes) : Bytes := if sufS c s = true then List.take (s.length - 1) s else s
def rowW (s : Bytes) : RowV := (scanN (cutS 33 (cutS 35 s)), sufS 33 (cutS 35 s), sufS 35 s)
def rowOk (s : Bytes) : Prop := 0 ≤ scanN (cutS 33 (cutS 35 s))
def rowsW (s : Bytes) : List RowV := if s = [45] then [] else (splitC 44 s).map rowW
def aboutS (l : List Bytes) : Sec := (scanN (List.getD l 0 []), decide (List.getD l 1 [] = [49]), scanN (List.getD l 2 []), rowsW (List.getD l 3 []))
def flagOk (s : Bytes) : Prop := s = [48] ∨ s = [49]
def aboutOk (l : List Bytes) : Prop := 0 ≤ scanN (List.getD l 0 []) ∧ flagOk (List.getD l 1 []) ∧ 0 ≤ scanN (List.getD l 2 []) ∧ (List.getD l 3 [] = [45] ∨ ∀ w ∈ splitC 44 (List.getD l 3 []), rowOk w)
def dataS (s : Bytes) : Bytes := if s = [45] then [] else (unhexS s).1
def dataOk (s : Bytes) : Prop := s = [45] ∨ ((unhexS s).2 = true ∧ s ≠ [])
def listW (s : Bytes) : List Bytes := if s = [45] then [] else splitC 44 s
def readS (l : List Bytes) : RepV :=
  if (l.length : Int) = 0 then { repd with kind := 1 }
  else if (l.length : Int) = 1 then { repd with kind := 6, flag := decide (List.getD l 0 [] = ([115, 101, 97, 108, 101, 100] : Bytes)) }
  else if (l.length : Int) = 2 ∧ List.getD l 0 [] = ([110, 117, 109, 98, 101, 114] : Bytes) then { repd with kind := 2, n := scanN (List.getD l 1 []) }
  else if (l.length : Int) = 3 ∧ List.getD l 0 [] = ([102, 111, 117, 110, 100] : Bytes) then { repd with kind := 3, n := scanN (List.getD l 1 []), data := dataS (List.getD l 2 []) }
  else if (l.length : Int) = 5 ∧ List.getD l 0 [] = ([97, 98, 111, 117, 116] : Bytes) then { repd with kind := 4, sec := aboutS (List.drop 1 l) }
  else { repd with kind := 5, names := listW (List.getD l 1 []) }
def readOk (l : List Bytes) : Prop :=
  if (l.length : Int) = 0 then True
  else if (l.length : Int) = 1 then List.getD l 0 [] = ([115, 101, 97, 108, 101, 100] : Bytes) ∨ List.getD l 0 [] = ([111, 112, 101, 110] : Bytes)
  else if (l.length : Int) = 2 ∧ List.getD l 0 [] = ([110, 117, 109, 98, 101, 114] : Bytes) then 0 ≤ scanN (List.getD l 1 [])
  else if (l.length : Int) = 3 ∧ List.getD l 0 [] = ([102, 111, 117, 110, 100] : Bytes) then 0 ≤ scanN (List.getD l 1 []) ∧ dataOk (List.getD l 2 [])
  else if (l.length : Int) = 5 ∧ List.getD l 0 [] = ([97, 98, 111, 117, 116] : Bytes) then aboutOk (List.drop 1 l)
  else (l.length : Int) = 2 ∧ List.getD l 0 [] = ([110, 97, 109, 101, 115] : Bytes)
theorem nand {a b : Prop} (h : ¬ a ∨ ¬ b) : ¬ (a ∧ b) := fun q => h.elim (fun z => z q.1) (fun z => z q.2)
theorem drop_at (l : List Bytes) (j : Nat) : List.getD (List.drop 1 l) j [] = List.getD l (j + 1) [] := by
  simp [List.getD_eq_getElem?_getD, List.getElem?_drop, Nat.add_comm]
theorem rows_step (W : List Bytes) (k : Nat) (h : k < W.length) : (List.take k W).map rowW ++ [rowW (List.getD W k [])] = (List.take (k + 1) W).map rowW := by
  rw [Lib.take_succ [] W k h, List.map_append]; rfl
theorem ok_step {W : List Bytes} {k : Nat} (h : k < W.length) (hA : ∀ w ∈ List.take k W, rowOk w) (hx : rowOk (List.getD W k [])) : ∀ w ∈ List.take (k + 1) W, rowOk w := by
  intro w hw
  rw [Lib.take_succ [] W k h] at hw
  rcases List.mem_append.1 hw with q | q
  · exact hA w q
  · rw [List.mem_singleton.1 q]; exact hx
theorem ok_end {W : List Bytes} {k : Nat} (h : W.length ≤ k) (hA : ∀ w ∈ List.take k W, rowOk w) : ∀ w ∈ W, rowOk w := by rwa [List.take_of_length_le h] at hA
theorem scan_ok {s : Bytes} : 0 ≤ scanN s ↔ sizeB s = true ∧ s.all digB = true := by
  unfold scanN
  constructor
  · intro h
    split at h
    · assumption
    · omega
  · intro h
    rw [if_pos h]
    have hl : s.length ≤ 3 := by
      have := h.1
      unfold sizeB at this
      simp only [Bool.not_eq_true', Bool.or_eq_false_iff, decide_eq_false_iff_not] at this
      omega
    have := (AL.Ask.val_rng s s.length hl (Nat.le_refl _) (by rw [List.take_of_length_le (Nat.le_refl _)]; exact h.2)).1
    rwa [List.take_of_length_le (Nat.le_refl _)] at this
theorem num_size (s : Bytes) : ((decide (1 ≤ (List.length s : Int)) && decide ((List.length s : Int) ≤ 3)) && (decide (s = [48]) || !decide (((List.getD s 0 0).toNat : Int) = 48))) = sizeB s := by
  have e48 : ∀ b : UInt8, ((b.toNat : Int) = 48) ↔ b = 48 := fun b => ⟨fun h => UInt8.toNat_inj.1 (by rw [show (48 : UInt8).toNat = 48 from rfl]; omega), fun h => by rw [h]; rfl⟩
  rw [Bool.eq_iff_iff]
  unfold sizeB
  simp only [Bool.and_eq_true, Bool.or_eq_true, Bool.not_eq_true', Bool.or_eq_false_iff, Bool.and_eq_false_iff, decide_eq_true_eq, decide_eq_false_iff_not, e48]
  match s with
  | [] => simp
  | [a] => simp; exact Classical.em _
  | a :: b :: r => simp; omega
theorem num_size3 {s : Bytes} (h : ((decide (1 ≤ (List.length s : Int)) && decide ((List.length s : Int) ≤ 3)) && (decide (s = [48]) || !decide (((List.getD s 0 0).toNat : Int) = 48))) = true) : s.length ≤ 3 := by
  simp only [Bool.and_eq_true, decide_eq_true_eq] at h
  omega
theorem num_digx {b : UInt8} (h : (decide (48 ≤ (b.toNat : Int)) && decide ((b.toNat : Int) ≤ 57)) = true) : 48 ≤ b.toNat ∧ b.toNat ≤ 57 := by
  simp only [Bool.and_eq_true, decide_eq_true_eq] at h
  omega
theorem num_dig {s : Bytes} {k : Nat} (h : s.all digB = true) (hk : k < s.length) : (decide (48 ≤ ((List.getD s k 0).toNat : Int)) && decide (((List.getD s k 0).toNat : Int) ≤ 57)) = true := by
  have := List.all_eq_true.1 h _ (Lib.getD_mem 0 s k hk)
  rw [AL.Ask.digB_iff] at this
  simp only [Bool.and_eq_true, decide_eq_true_eq]
  omega
theorem num_all {s : Bytes} {k : Nat} (hk : k < s.length) (hD : (List.take k s).all digB = true) (h : (decide (48 ≤ ((List.getD s k 0).toNat : Int)) && decide (((List.getD s k 0).toNat : Int) ≤ 57)) = true) : (List.take (k + 1) s).all digB = true := by
  rw [Lib.take_succ 0 s k hk, List.all_append, hD, Bool.true_and]
  simp only [List.all_cons, List.all_nil, Bool.and_true]
  exact AL.Ask.digB_iff.2 (num_digx h)
theorem num_step {s : Bytes} {k : Nat} (hk : k < s.length) (h : (decide (48 ≤ ((List.getD s k 0).toNat : Int)) && decide (((List.getD s k 0).toNat : Int) ≤ 57)) = true) : valS (List.take (k + 1) s) = 10 * valS (List.take k s) + IntKind.wrap .u8 (((List.getD s k 0).toNat : Int) - 48) := by
  have := num_digx h
  rw [AL.Ask.val_step s k hk, AL.Ask.wrap_u8 (by omega) (by omega)]
theorem num_fin {s : Bytes} {k : Nat} (h : ((decide (1 ≤ (List.length s : Int)) && decide ((List.length s : Int) ≤ 3)) && (decide (s = [48]) || !decide (((List.getD s 0 0).toNat : Int) = 48))) = true) (hk : s.length ≤ k) (hD : (List.take k s).all digB = true) : 0 ≤ scanN s := by
  rw [num_size] at h
  rw [List.take_of_length_le hk] at hD
  exact scan_ok.2 ⟨h, hD⟩
theorem num_val {s : Bytes} {k : Nat} (h : ((decide (1 ≤ (List.length s : Int)) && decide ((List.length s : Int) ≤ 3)) && (decide (s = [48]) || !decide (((List.getD s 0 0).toNat : Int) = 48))) = true) (hk : s.length ≤ k) (hD : (List.take k s).all digB = true) : scanN s = valS s := by
  rw [num_size] at h
  rw [List.take_of_length_le hk] at hD
  exact if_pos ⟨h, hD⟩
theorem flag_b (s : Bytes) : ((decide (s = [48]) || decide (s = [49])) = true) = flagOk s := by
  unfold flagOk
  simp only [Bool.or_eq_true, decide_eq_true_eq]
theorem drop_last {s : Bytes} (h : s ≠ []) : List.drop (s.length - 1) s = [List.getD s (s.length - 1) 0] := by
  have hl : 0 < s.length := List.length_pos_iff.2 h
  rw [List.drop_eq_getElem_cons (by omega), List.drop_of_length_le (by omega), List.getD_eq_getElem?_getD, List.getElem?_eq_getElem (by omega)]; rfl
theorem suf_b (k : UInt8) (s : Bytes) : (decide ((List.length ([k] : List UInt8) : Int) ≤ (List.length s : Int)) && decide (List.drop ((List.length s : Int) - (List.length ([k] : List UInt8) : Int)).toNat s = [k])) = sufS k s := by
  unfold sufS
  rw [Bool.eq_iff_iff]
  simp only [Bool.and_eq_true, decide_eq_true_eq, List.length_cons, List.length_nil]
  by_cases h : s = []
  · subst h; simp
  · have hl : 0 < s.length := List.length_pos_iff.2 h
    rw [show ((s.length : Int) - ((0 + 1 : Nat) : Int)).toNat = s.length - 1 by omega, drop_last h]
    simp only [List.cons.injEq, and_true]
    exact ⟨fun q => ⟨h, q.2⟩, fun q => ⟨by omega, q.2⟩⟩
theorem suf_len {k : UInt8} {s : Bytes} (h : sufS k s = true) : 1 ≤ s.length := by
  unfold sufS at h
  have := (of_decide_eq_true h).1
  exact List.length_pos_iff.2 this
theorem cut_n {k : UInt8} {s : Bytes} (h : sufS k s = false) : cutS k s = s := if_neg (by rw [h]; decide)
theorem cut_y {k : UInt8} {s : Bytes} (h : sufS k s = true) : cutS k s = List.take ((List.length s : Int) - (List.length ([k] : List UInt8) : Int)).toNat s := by
  unfold cutS
  have := suf_len h
  rw [if_pos h, show ((List.length s : Int) - (List.length ([k] : List UInt8) : Int)).toNat = s.length - 1 by simp only [List.length_cons, List.length_nil]; omega]
theorem data_b {s : Bytes} (h : ¬ s = [45]) : (((unhexS s).2 && !decide (s = [])) = true) = dataOk s := by
  unfold dataOk
  simp [h]
end AL.Reply
namespace AL
open Go
set_option linter.unusedVariables false
set_option linter.unusedSimpArgs false
def Chn (chain : List PanicEntry) : Prop := ∃ (u : TypeId) (pv : Value), chain = [{ v := .iface u pv, recovered := false }]
def EndX (ok : Prop) (Γ : Ctx) (w' : World) (res : AV) (e : Ending) : Prop := (ok ∧ ∃ v, e = .returned v ∧ MV Γ H0 w' res v) ∨ (¬ ok ∧ ∃ chain, e = .panicked chain ∧ Chn chain)
def PureX (P : Program) (f : FuncId) (args : List TV) (res : AV) (ok : Prop) : Prop :=
  Callable P f ∧ ∀ (Γ : Ctx) (w : World) (cargs : Array Value), HeapOk Γ H0 w → MTs Γ w args cargs.toList →
    Calls P f cargs w fun e w' => ∃ Γ', EndX ok Γ' w' res e ∧ Post Γ H0 w Γ' [] w'
theorem PureX.congr {P : Program} {f : FuncId} {args : List TV} {res : AV} {ok ok' : Prop} (h : PureX P f args res ok) (e : ok ↔ ok') : PureX P f args res ok' := by rw [← propext e]; exact h
theorem PureX.weak {P : Program} {f : FuncId} {args : List TV} {res res' : AV} {ok : Prop} (h : PureX P f args res ok) (e : ok → res = res') : PureX P f args res' ok := by
  refine ⟨h.1, fun Γ w cargs hh hm => (h.2 Γ w cargs hh hm).mono ?_⟩
  rintro e' w' ⟨Γ', hE, hp⟩
  refine ⟨Γ', ?_, hp⟩
  rcases hE with ⟨hok, v, rfl, hv⟩ | h
  · exact .inl ⟨hok, v, rfl, e hok ▸ hv⟩
  · exact .inr h
def evXc (P : Program) (s : AS) (o : Oper) (ok : Prop) (ce : Option CE) : Option (List Prop × AV) :=
  match o.guard, o.op, ce with
  | none, .call c, some (.call [] [] res []) =>
    match c.callee with
    | .value fo => match (s.val fo).strip, tvsOf (c.args.toList.map fun x => (s.val x).strip) with
      | .t (.c (.fn f caps)), some args => if okDst s o && plainV res then some (condsOf s o.op ++ [PureX P f (args ++ caps.map capT) res ok], res) else none
      | _, _ => none
    | _ => none
  | _, _, _ => none
theorem evXc_ok {P : Program} {ops : Array Oper} {s : AS} {o : Oper} {ok : Prop} {ce cs r} (h : evXc P s o ok ce = some (cs, r)) (hc : allP cs) {G Γ a w} {Q : Exit → Act → World → Prop} {K : Act → World → Prop} (hC : Conc G Γ s a w)
    (hK : ok → ∀ Γ' a' w', Conc G Γ' (s.set o.dst r) a' w' → K a' w') (hP : ¬ ok → ∀ chain, Chn chain → ∀ Γ' w', Conc G Γ' s a w' → Q (.panic chain) a w') : wpO P ops Q o K a w := by
  unfold evXc at h
  split at h
  case h_2 => cases h
  rename_i c res hg he
  split at h
  case h_2 => cases h
  rename_i fo hcal
  split at h
  case h_2 => cases h
  rename_i fid caps args hfo hargs
  split at h
  case isFalse => cases h
  rename_i hd
  simp only [Bool.and_eq_true] at hd
  simp only [Option.some.injEq, Prod.mk.injEq] at h
  obtain ⟨rfl, rfl⟩ := h
  rw [allP_append] at hc
  have hv := val_strip hC hc.1
  obtain ⟨⟨fn, hfn, hbody, hname⟩, hspec⟩ := hc.2
  have hm := tvsOf_ok (val := fun x => (s.val x).strip) (ρ := a.eval) _ _ (fun y hy => hv y (by simp only [he, Op.operands, Call.operands, hcal, Array.toList_append]; exact List.mem_append_right _ hy)) hargs
  have hf := hv fo (by simp [he, Op.operands, Call.operands, hcal])
  rw [hfo] at hf
  obtain ⟨ccs, hfv, hcaps⟩ := hf
  have hm2 := MTs.append hm (capsT_ok hcaps)
  have hrun : (execOp a.eval o).run P w = Result.ok (.enter fid (c.args.map a.eval ++ ccs)) w := by
    have hname' : fn.name ≠ "runtime.NumGoroutine" := by simpa using hname
    unfold execOp
    simp only [he]
    simp [resolve, hcal, hfv, Deferred.ofValue, invoke, callFunc, hfn, hname']
    intro h0
    rw [h0] at hbody
    cases hbody
  unfold wpO
  rw [if_pos (wanted_none hg)]
  left
  unfold Oper.wp
  rw [hrun, Oper.upon_enter]
  refine (hspec Γ w _ (heap0 hC.heap) (by simpa using hm2)).mono ?_
  rintro e w' ⟨Γ', hE, hpost⟩
  rcases hE with ⟨hok, v, rfl, hv'⟩ | ⟨hn, chain, rfl, hch⟩
  · refine hK hok Γ' _ w' ?_
    have := eff_conc (s := s) (dst := o.dst) (f := ⟨[], res, s.obj, [], []⟩) (v := v) hC (fun _ _ h => by cases h) hpost (.inr hd.2) (.inr hv') (okDst_ok hd.1) rfl
    rw [← effSt_eq] at this
    exact this
  · refine hP hn chain hch Γ' w' ?_
    have := eff_conc (s := s) (dst := none) (f := ⟨[], .any, s.obj, [], []⟩) (v := undef) hC (fun _ _ h => by cases h) hpost (.inl rfl) (.inl rfl) (fun d hd => by cases hd) rfl
    rw [← effSt_eq] at this
    exact this
theorem evXc_at {P : Program} {ops : Array Oper} {s S : AS} {o : Oper} {ok : Prop} {ce r} (h : evXc P s o ok ce = some r) (hl : Looks ops o ce s S) : evXc P S o ok ce = some r := by
  have hv := hl.val
  have hok : okDst S o = okDst s o := by unfold okDst; rw [hl.n]
  have hcond := conds_at hv
  unfold evXc at h ⊢
  rw [hok, hcond]
  split at h
  case h_2 => cases h
  rename_i c res hg he
  split at h
  case h_2 => cases h
  rename_i fo hcal
  have hm : c.args.toList.map (fun x => (S.val x).strip) = c.args.toList.map (fun x => (s.val x).strip) := List.map_congr_left fun x hx => by
    rw [hv x (by simp only [he, Op.operands, Call.operands, Array.toList_append]; exact List.mem_append_right _ hx)]
  have hf : S.val fo = s.val fo := hv fo (by simp [he, Op.operands, Call.operands, hcal])
  simp only [hcal, hm, hf]
  exact h
def xoAt : List (Nat × Prop) → Nat → Option Prop
  | [], _ => none
  | (i, p) :: l, j => bif Nat.beq j i then some p else xoAt l j
def ascX : Nat → List (Nat × Prop) → Bool
  | _, [] => true
  | n, (i, _) :: l => Nat.ble n i && ascX (i + 1) l
def topX (n : Nat) : List (Nat × Prop) → Bool
  | [] => true
  | (i, _) :: l => Nat.blt i n && topX n l
def okX : List (Nat × Prop) → Prop
  | [] => True
  | [(_, p)] => p
  | (_, p) :: l => p ∧ okX l
theorem okX_cons (i : Nat) (p : Prop) (l : List (Nat × Prop)) : okX ((i, p) :: l) ↔ p ∧ okX l := by
  cases l with
  | nil => simp [okX]
  | cons x l => rfl
theorem okX_of {n : Nat} : ∀ {xs : List (Nat × Prop)} {m : Nat}, ascX m xs = true → topX n xs = true → (∀ j, m ≤ j → j < n → ∀ q, xoAt xs j = some q → q) → okX xs
  | [], _, _, _, _ => trivial
  | (i, p) :: l, m, h1, h2, h => by
    simp only [ascX, Bool.and_eq_true] at h1
    simp only [topX, Bool.and_eq_true] at h2
    have h3 := Nat.le_of_ble_eq_true h1.1
    have h4 : i < n := Nat.le_of_ble_eq_true h2.1
    rw [okX_cons]
    refine ⟨h i h3 h4 p (by simp only [xoAt, Nat.beq_refl, cond_true]), okX_of h1.2 h2.2 fun j hj hjn q hq => h j (by omega) hjn q ?_⟩
    simp only [xoAt]
    rw [beq_false (show j ≠ i by omega)]
    exact hq
theorem not_okX : ∀ {xs : List (Nat × Prop)} {j : Nat} {q : Prop}, xoAt xs j = some q → ¬ q → ¬ okX xs
  | (i, p) :: l, j, q, h, hq => by
    rw [okX_cons]
    simp only [xoAt] at h
    rintro ⟨h1, h2⟩
    by_cases hj : j = i
    · subst hj; rw [Nat.beq_refl] at h; cases h; exact hq h1
    · rw [beq_false hj] at h; exact not_okX h hq h2
def evOpX (P : Program) (ops : Array Oper) (s : AS) (o : Oper) (ce : Option CE) (xo : Option Prop) : Option (List Prop × AS) :=
  match xo with
  | none => evOp P ops s o ce
  | some ok => match evXc P s o ok ce with
    | some (cs, r) => some (cs, s.set o.dst r)
    | none => none
theorem evOpX_ok {P : Program} {ops : Array Oper} {s s' : AS} {o : Oper} {ce : Option CE} {xo : Option Prop} {cs : List Prop} (h : evOpX P ops s o ce xo = some (cs, s')) (hc : allP cs) {G Γ a w} {Q : Exit → Act → World → Prop} {K : Act → World → Prop} (hC : Conc G Γ s a w)
    (hK : (∀ q, xo = some q → q) → ∀ Γ' a' w', Conc G Γ' s' a' w' → K a' w') (hP : ∀ q, xo = some q → ¬ q → ∀ chain, Chn chain → ∀ Γ' w', Conc G Γ' s a w' → Q (.panic chain) a w') : wpO P ops Q o K a w := by
  unfold evOpX at h
  split at h
  · exact evOp_ok h hc G Γ a w Q K hC (hK fun q h => by cases h)
  · rename_i ok
    split at h
    · rename_i cs1 r hx
      simp only [Option.some.injEq, Prod.mk.injEq] at h
      obtain ⟨rfl, rfl⟩ := h
      exact evXc_ok hx hc hC (fun hok => hK fun q h => by cases h; exact hok) (fun hn => hP ok rfl hn)
    · cases h
def evRX (P : Program) (ops : Array Oper) (ces : List (Nat × CE)) (xs : List (Nat × Prop)) : Nat → List Oper → AS → Option (List Prop × AS)
  | _, [], s => some ([], s)
  | i, o :: l, s =>
    match evOpX P ops s o (ceAt ces i) (xoAt xs i) with
    | some (cs, s1) => match evRX P ops ces xs (i + 1) l s1 with
      | some (cs', s2) => some (cs ++ cs', s2)
      | none => none
    | none => none
def evRegX (P : Program) (ops : Array Oper) (ces : List (Nat × CE)) (xs : List (Nat × Prop)) (s : AS) (ks hs : List Nat) : Option (List Prop × AS) :=
  match evRX P ops ces xs 0 ops.toList s with
  | some (cs, s1) => bif ascX 0 xs && topX ops.size xs then some (cs, s1.proj ks hs) else none
  | none => none
theorem evRX_ok {P : Program} {ops : Array Oper} {ces : List (Nat × CE)} {xs : List (Nat × Prop)} {Q : Exit → Act → World → Prop} {G : Gd}
    (hP : ∀ j q, xoAt xs j = some q → ¬ q → ∀ chain, Chn chain → ∀ s Γ a w, Conc G Γ s a w → Q (.panic chain) a w) :
    ∀ (l : List Oper) (i : Nat) (s s' : AS) (cs : List Prop), (∀ j, l[j]? = ops[i + j]?) → evRX P ops ces xs i l s = some (cs, s') → allP cs → (∀ j, j < i → ∀ q, xoAt xs j = some q → q) →
    ∀ Γ a w, Conc G Γ s a w → ((∀ j, j < i + l.length → ∀ q, xoAt xs j = some q → q) → ∀ Γ' a' w', Conc G Γ' s' a' w' → Q .normal a' w') → wpOps P ops Q (List.range' i l.length) a w
  | [], i, s, s', cs, hl, h, hc, hx, Γ, a, w, hC, hQ => by
    cases h
    simp only [List.length_nil, List.range'_zero, wpOps]
    exact hQ hx _ _ _ hC
  | o :: l, i, s, s', cs, hl, h, hc, hx, Γ, a, w, hC, hQ => by
    unfold evRX at h
    split at h
    · rename_i cs1 s1 h1
      split at h
      · rename_i cs2 s2 h2
        cases h
        rw [allP_append] at hc
        have ho : ops[i]? = some o := by have := hl 0; simpa using this.symm
        rw [List.length_cons, List.range'_succ, wpOps_cons, wpO_eq ho]
        refine evOpX_ok h1 hc.1 hC (fun hok Γ' a' w' hC' => ?_) (fun q hq hn chain hch Γ' w' hC' => hP i q hq hn chain hch s Γ' a w' hC')
        refine evRX_ok hP l (i + 1) s1 _ cs2 (fun j => by have := hl (j + 1); rw [List.getElem?_cons_succ] at this; rw [this]; congr 1; omega) h2 hc.2 (fun j hj q hq => ?_) Γ' a' w' hC' (fun hall => hQ fun j hj => hall j (by rw [List.length_cons] at hj; omega))
        by_cases hji : j = i
        · subst hji; exact hok q hq
        · exact hx j (by omega) q hq
      · cases h
    · cases h
def RetX (P : Program) (fn : Func) (res : AV) (ok : Prop) (e : Exit) (s : AS) : Prop :=
  match e with
  | .panic chain => ¬ ok ∧ Chn chain
  | e => ok ∧ RetP P fn res H0 e s
section
variable {P : Program} {R : Exit → AS → Prop} {k : List KI} {s : AS}
theorem AMx.pan {chain : List PanicEntry} : ∀ (k : List KI) {s : AS}, R (.panic chain) s → AMx P R k (.panic chain) s
  | [], _, h => h
  | .code _ :: k, _, h => AMx.pan k h
  | .blk _ :: k, _, h => AMx.pan k h
  | .inv _ :: k, _, h => AMx.pan k h
theorem AMx.regionX {id : Nat} {ops : Array Oper} {ces : List (Nat × CE)} {xs : List (Nat × Prop)} {ks hs : List Nat} {cs : List Prop} {s' : AS} (h : evRegX P ops ces xs s ks hs = some (cs, s')) (hc : allP cs)
    (hk : okX xs → AMx P R k .normal s') (hp : ¬ okX xs → ∀ chain s, Chn chain → AMx P R k (.panic chain) s) : AMx P R (.code (.region id ops false) :: k) .normal s := by
  intro G Γ a w hC
  refine wp_region ?_
  unfold evRegX at h
  split at h
  · rename_i cs1 s1 h1
    cases hB : ascX 0 xs && topX ops.size xs
    · rw [hB] at h; cases h
    rw [hB] at h
    simp only [cond_true, Option.some.injEq, Prod.mk.injEq] at h
    obtain ⟨rfl, rfl⟩ := h
    simp only [Bool.and_eq_true] at hB
    have := evRX_ok (Q := fun e a' w' => ∃ s' Γ', AMx P R k e s' ∧ Conc G Γ' s' a' w') (fun j q hq hn chain hch s Γ a w hC => ⟨s, Γ, hp (not_okX hq hn) chain s hch, hC⟩)
      ops.toList 0 s s1 cs1 (fun j => by simp) h1 hc (fun j hj => absurd hj (Nat.not_lt_zero j)) Γ a w hC (fun hall Γ' a' w' hC' => ⟨_, Γ', hk (okX_of hB.1 hB.2 fun j _ hj q hq => hall j (by simpa using hj) q hq), conc_le hC' (le_proj _ _ _)⟩)
    rwa [show List.range' 0 ops.toList.length = List.range ops.size by rw [List.range_eq_range']; simp] at this
  · cases h
end
def evDX (P : Program) (ops : Array Oper) (s : AS) (o : Oper) (ce : Option CE) (xo : Option Prop) : Option (List Prop × Dl) :=
  match xo with
  | none => evD P ops s o ce
  | some ok => match evXc P s o ok ce with
    | some (cs, r) => some (cs, Dl.v r)
    | none => none
theorem evDX_at {P : Program} {ops : Array Oper} {s S : AS} {o : Oper} {ce xo cs d} (h : evDX P ops s o ce xo = some (cs, d)) (hl : Looks ops o ce s S) : evOpX P ops S o ce xo = some (cs, app o.dst d S) := by
  unfold evDX at h
  unfold evOpX
  split at h
  · exact evD_at h hl
  · rename_i ok
    split at h
    · rename_i cs1 r hx
      simp only [Option.some.injEq, Prod.mk.injEq] at h
      obtain ⟨rfl, rfl⟩ := h
      simp only [evXc_at hx hl]
      rfl
    · cases h
def traceX (P : Program) (ops : Array Oper) (ces : List (Nat × CE)) (ros : List (Nat × List Nat)) (xs : List (Nat × Prop)) : Nat → List Oper → AS → Option (List Prop × List It × AS)
  | _, [], s => some ([], [], s)
  | i, o :: l, s =>
    let rd := projR s (o.looksAt ops)
    let ro := restr s.obj (rosAt ros i)
    match evDX P ops (AS.lst s.n rd ro) o (ceAt ces i) (xoAt xs i) with
    | some (cs, d) =>
      bif (hinOf (ceAt ces i)).all (fun j => (ofH ro j).isSome) then
        match traceX P ops ces ros xs (i + 1) l (app o.dst d s) with
        | some (cs', its, s') => some (cs ++ cs', ⟨o.dst, d, rd, ro⟩ :: its, s')
        | none => none
      else none
    | none => none
def GoodX (P : Program) (ops : Array Oper) (ce : Option CE) (xo : Option Prop) (o : Oper) (n : Nat) (it : It) : Prop :=
  it.dst = o.dst ∧ ∀ S : AS, S.n = n → Agr it S → ∃ cs, allP cs ∧ evOpX P ops S o ce xo = some (cs, app it.dst it.d S)
theorem traceX_ok {P : Program} {ops : Array Oper} {ces ros xs} {full : List It} {s0 : AS} : ∀ (l : List Oper) (i : Nat) (s s' : AS) (cs : List Prop) (its : List It), traceX P ops ces ros xs i l s = some (cs, its, s') → allP cs →
    (∀ j, full[i + j]? = its[j]?) → s = foldM full (fun _ => true) i s0 →
    s' = foldM full (fun _ => true) (i + l.length) s0 ∧ ∀ j o, l[j]? = some o → ∃ it, its[j]? = some it ∧ GoodX P ops (ceAt ces (i + j)) (xoAt xs (i + j)) o s0.n it ∧ Agr it (foldM full (fun _ => true) (i + j) s0)
  | [], i, s, s', cs, its, h, hc, hf, hs => by
    cases h
    exact ⟨hs, fun j o hj => by simp at hj⟩
  | o :: l, i, s, s', cs, its, h, hc, hf, hs => by
    unfold traceX at h
    simp only [] at h
    split at h
    · rename_i cs1 d hd
      cases hh : (hinOf (ceAt ces i)).all (fun j => (ofH (restr s.obj (rosAt ros i)) j).isSome)
      · rw [hh] at h; cases h
      rw [hh] at h
      simp only [cond_true] at h
      split at h
      · rename_i cs2 its2 s2 ht
        simp only [Option.some.injEq, Prod.mk.injEq] at h
        obtain ⟨rfl, rfl, rfl⟩ := h
        rw [allP_append] at hc
        have h0 : full[i]? = some ⟨o.dst, d, projR s (o.looksAt ops), restr s.obj (rosAt ros i)⟩ := by have := hf 0; simpa using this
        have hstep : app o.dst d s = foldM full (fun _ => true) (i + 1) s0 := by
          simp only [foldM, cond_true, stp, h0, ← hs]
        obtain ⟨q1, q2⟩ := traceX_ok l (i + 1) _ _ _ _ ht hc.2 (fun j => by
          have := hf (j + 1)
          rw [List.getElem?_cons_succ] at this
          rw [← this]; congr 1; omega) hstep
        refine ⟨by rw [q1, List.length_cons]; congr 1; omega, fun j o' hj => ?_⟩
        cases j with
        | zero =>
          simp only [List.getElem?_cons_zero, Option.some.injEq] at hj
          subst hj
          refine ⟨_, rfl, ⟨rfl, fun S hn hA => ⟨cs1, hc.1, ?_⟩⟩, ?_⟩
          · refine evDX_at hd ⟨?_, fun t ht => ?_, fun id ob hob => ?_, hh⟩
            · rw [hn, hs]; exact (foldM_n full _ s0 i).symm
            · have := hA.reg _ (mem_projR s ht)
              rw [this]
              exact (lkp_projR s ht).symm
            · exact hA.obj _ (ofH_mem hob)
          · rw [Nat.add_zero, ← hs]
            exact ⟨fun p hp => projR_val s hp, fun p hp => restr_val _ hp⟩
        | succ j =>
          rw [List.getElem?_cons_succ] at hj
          obtain ⟨it, g1, g2, g3⟩ := q2 j o' hj
          refine ⟨it, by rw [List.getElem?_cons_succ]; exact g1, ?_, ?_⟩
          · rwa [show i + (j + 1) = i + 1 + j by omega]
          · rwa [show i + (j + 1) = i + 1 + j by omega]
      · cases h
    · cases h
def evDrawX (P : Program) (ops : Array Oper) (ces : List (Nat × CE)) (ros : List (Nat × List Nat)) (xs : List (Nat × Prop)) (s : AS) (ks hs : List Nat) : Option (List Prop × AS) :=
  match traceX P ops ces ros xs 0 ops.toList s with
  | some (cs, its, s') => bif (topoB 0 ops.toList && pairB its 0 its (ancs ops.toList [])) && (ascX 0 xs && topX ops.size xs) then some (cs, s'.proj ks hs) else none
  | none => none
theorem wpAnyX_ok {P : Program} {ops : Array Oper} {ces : List (Nat × CE)} {xs : List (Nat × Prop)} {its : List It} {s0 : AS} {G : Gd} {Q : Exit → Act → World → Prop}
    (hit : ∀ j o, ops[j]? = some o → ∃ it, its[j]? = some it ∧ GoodX P ops (ceAt ces j) (xoAt xs j) o s0.n it ∧ Agr it (foldM its (fun _ => true) j s0)) (htop : ∀ j o, ops[j]? = some o → ∀ p ∈ preds o, p < j)
    (hpair : ∀ i j, i < j → j < ops.size → ∀ m, Dn ops m → m j = true → m i = false → Free2 its i j)
    (hP : ∀ j q, xoAt xs j = some q → ¬ q → ∀ chain, Chn chain → ∀ s Γ a w, Conc G Γ s a w → Q (.panic chain) a w)
    (hQ : (∀ j, j < ops.size → ∀ q, xoAt xs j = some q → q) → ∀ Γ a w, Conc G Γ (foldM its (fun _ => true) ops.size s0) a w → Q .normal a w) :
    ∀ (fuel : Nat) (listed : Array Bool) (rest : List Nat) (a : Act) (w : World), listed.size = ops.size → rest.length ≤ fuel → (∀ j, j < ops.size → mOf listed j = false → j ∈ rest) → Dn ops (mOf listed) → (∀ j, j < ops.size → mOf listed j = true → ∀ q, xoAt xs j = some q → q) →
      (∃ Γ, Conc G Γ (foldM its (mOf listed) ops.size s0) a w) → wpAny P .any ops Q fuel listed a w := by
  have done : ∀ (listed : Array Bool) (a : Act) (w : World), listed.size = ops.size → Region.ready .any ops listed = [] → (∀ j, j < ops.size → mOf listed j = true → ∀ q, xoAt xs j = some q → q) → (∃ Γ, Conc G Γ (foldM its (mOf listed) ops.size s0) a w) → Q .normal a w := by
    rintro listed a w hsz hr hx ⟨Γ, hC⟩
    have hall : ∀ k j, j < k → j < ops.size → mOf listed j = true := by
      intro k
      induction k with
      | zero => intro j h; omega
      | succ k ih =>
        intro j hj hjs
        cases hm : mOf listed j with
        | true => rfl
        | false =>
          exfalso
          have hmem : j ∈ Region.ready .any ops listed := by
            rw [mem_ready]
            refine ⟨?_, ops[j], Array.getElem?_eq_getElem hjs, fun e he hb => ?_⟩
            · have hlt : j < listed.size := by omega
              unfold mOf at hm
              simp only [Array.getD_eq_getD_getElem?, Array.getElem?_eq_getElem hlt, Option.getD_some] at hm ⊢
              exact hm
            · have hp : e.on ∈ preds ops[j] := List.mem_map.2 ⟨e, List.mem_filter.2 ⟨by simpa using he, by simpa using hb⟩, rfl⟩
              have := htop j _ (Array.getElem?_eq_getElem hjs) _ hp
              exact ih e.on (by omega) (by omega)
          rw [hr] at hmem
          cases hmem
    rw [foldM_congr its (m' := fun _ => true) s0 ops.size fun j hj => hall (j + 1) j (by omega) hj] at hC
    exact hQ (fun j hj => hx j hj (hall (j + 1) j (by omega) hj)) Γ a w hC
  intro fuel
  induction fuel with
  | zero =>
    intro listed rest a w hsz hle hrest hdn hx hC
    have hnil : rest = [] := List.length_eq_zero_iff.1 (by omega)
    have hr : Region.ready .any ops listed = [] := by
      cases hx : Region.ready .any ops listed with
      | nil => rfl
      | cons j t =>
        exfalso
        have hj : j ∈ Region.ready .any ops listed := by rw [hx]; exact List.mem_cons_self ..
        obtain ⟨h0, o, ho, _⟩ := mem_ready.1 hj
        have hjs : j < ops.size := (Array.getElem?_eq_some_iff.1 ho).1
        have hlt : j < listed.size := by omega
        have : j ∈ rest := hrest j hjs (by
          unfold mOf
          simp only [Array.getD_eq_getD_getElem?, Array.getElem?_eq_getElem hlt, Option.getD_some] at h0 ⊢
          exact h0)
        rw [hnil] at this
        cases this
    exact ⟨hr, done listed a w hsz hr hx hC⟩
  | succ fuel ih =>
    intro listed rest a w hsz hle hrest hdn hx hC
    refine ⟨fun hr => done listed a w hsz hr hx hC, fun i hi => ?_⟩
    obtain ⟨h0, o, ho, hpre⟩ := mem_ready.1 hi
    have his : i < ops.size := (Array.getElem?_eq_some_iff.1 ho).1
    have hlt : i < listed.size := by omega
    have hm : mOf listed i = false := by
      unfold mOf
      simp only [Array.getD_eq_getD_getElem?, Array.getElem?_eq_getElem hlt, Option.getD_some] at h0 ⊢
      exact h0
    obtain ⟨it, g1, ⟨g2, g3⟩, g4⟩ := hit i o ho
    have hset : ∀ j, j < ops.size → mOf (listed.setIfInBounds i true) j = setM (mOf listed) i j := fun j hj => by
      unfold mOf setM
      by_cases hji : j = i
      · subst hji
        rw [Nat.beq_refl]
        simp [hlt]
      · rw [beq_false hji]
        simp only [Array.getD_eq_getD_getElem?, Array.getElem?_setIfInBounds_ne (Ne.symm hji)]
        rfl
    have hdn' : Dn ops (setM (mOf listed) i) := by
      intro j o' ho' hj p hp
      unfold setM at hj ⊢
      by_cases hji : j = i
      · subst hji
        rw [ho] at ho'
        cases ho'
        obtain ⟨e, he, rfl⟩ := List.mem_map.1 hp
        obtain ⟨he1, he2⟩ := List.mem_filter.1 he
        have := hpre e (by simpa using he1) he2
        unfold mOf
        rw [this]; simp
      · rw [beq_false hji] at hj
        have := hdn j o' ho' (by simpa using hj) p hp
        rw [this]; simp
    obtain ⟨q1, q2⟩ := at_any its g1 hm s0 his g4 fun j k hjk hk hmj hmk => by
      by_cases hji : j = i
      · subst hji
        rcases hmk with hmk | rfl
        · exact hpair j k hjk hk (mOf listed) hdn hmk hmj
        · exact absurd hjk (by omega)
      · refine hpair j k hjk hk (setM (mOf listed) i) hdn' ?_ (by unfold setM; rw [beq_false hji]; exact hmj)
        unfold setM
        rcases hmk with h | rfl
        · rw [h]; simp
        · rw [Nat.beq_refl]; rfl
    obtain ⟨Γ, hC⟩ := hC
    obtain ⟨cs, hcs, hev⟩ := g3 _ (foldM_n its _ s0 _) q1
    rw [wpO_eq ho]
    refine evOpX_ok hev hcs hC (fun hok Γ' a' w' hC' => ?_) (fun q hq hn chain hch Γ' w' hC' => hP i q hq hn chain hch _ Γ' a w' hC')
    refine ih _ (rest.erase i) a' w' (by simp [hsz]) ?_ ?_ ?_ ?_ ⟨Γ', ?_⟩
    · have := List.length_erase_of_mem (hrest i his hm)
      omega
    · intro j hj hmj
      rw [hset j hj] at hmj
      unfold setM at hmj
      by_cases hji : j = i
      · subst hji; rw [Nat.beq_refl] at hmj; cases hmj
      · rw [beq_false hji] at hmj
        exact (List.mem_erase_of_ne hji).2 (hrest j hj (by simpa using hmj))
    · intro j o' ho' hj p hp
      have hjs : j < ops.size := (Array.getElem?_eq_some_iff.1 ho').1
      have hp' := htop j o' ho' p hp
      rw [hset p (by omega)]
      rw [hset j hjs] at hj
      exact hdn' j o' ho' hj p hp
    · intro j hj hmj q hq
      rw [hset j hj] at hmj
      unfold setM at hmj
      by_cases hji : j = i
      · subst hji; exact hok q hq
      · rw [beq_false hji] at hmj
        exact hx j hj (by simpa using hmj) q hq
    · rw [foldM_congr its s0 ops.size hset, q2]
      exact hC'
theorem AMx.region_drawX {P : Program} {R : Exit → AS → Prop} {k : List KI} {s : AS} {id : Nat} {ops : Array Oper} {ces : List (Nat × CE)} {ros : List (Nat × List Nat)} {xs : List (Nat × Prop)} {ks hs : List Nat} {cs : List Prop} {s' : AS}
    (hm : P.follows .mixedOrders = true) (h : evDrawX P ops ces ros xs s ks hs = some (cs, s')) (hc : allP cs) (hk : okX xs → AMx P R k .normal s') (hp : ¬ okX xs → ∀ chain s, Chn chain → AMx P R k (.panic chain) s) :
    AMx P R (.code (.region id ops true) :: k) .normal s := by
  intro G Γ a w hC
  refine wp_region_any hm ?_
  unfold evDrawX at h
  split at h
  case h_2 => cases h
  rename_i cs1 its s1 ht
  cases hB : (topoB 0 ops.toList && pairB its 0 its (ancs ops.toList [])) && (ascX 0 xs && topX ops.size xs)
  · rw [hB] at h; cases h
  rw [hB] at h
  simp only [cond_true, Option.some.injEq, Prod.mk.injEq] at h
  obtain ⟨rfl, rfl⟩ := h
  simp only [Bool.and_eq_true] at hB
  obtain ⟨hB, hX⟩ := hB
  obtain ⟨h1, h2⟩ := traceX_ok (full := its) (s0 := s) ops.toList 0 s s1 cs1 its ht hc (fun j => by rw [Nat.zero_add]) rfl
  have hanc : AncOk ops (ancs ops.toList []) := ancs_ok ops.toList [] (fun j => by simp) (fun j i hi => by simp at hi)
  refine wpAnyX_ok (its := its) (s0 := s) (ces := ces) (xs := xs) (G := G) (fun j o ho => by
    have := h2 j o (by simpa using ho)
    rwa [Nat.zero_add] at this) (fun j o ho p hp => by
      have := topo_ok _ _ hB.1 j o (by simpa using ho) p hp
      omega) (fun i j hij hj m hdn hmj hmi x y hx hy => ?_) (fun j q hq hn chain hch s Γ a w hC => ⟨s, Γ, hp (not_okX hq hn) chain s hch, hC⟩) (fun hall Γ' a' w' hC' => ?_) ops.size _ (List.range ops.size) a _ (by simp) (by simp) (fun j hj _ => List.mem_range.2 hj) ?_ ?_ ⟨Γ, ?_⟩
  · rcases pairB_ok its 0 _ hB.2 j y hy i x (by omega) hx with h | h
    · have := hanc j i h m hdn hmj
      rw [hmi] at this; cases this
    · unfold free2B at h
      simp only [Bool.and_eq_true] at h
      exact h
  · refine ⟨_, Γ', hk (okX_of hX.1 hX.2 fun j _ hj q hq => hall j hj q hq), conc_le ?_ (le_proj _ _ _)⟩
    rw [h1]
    simpa using hC'
  · intro j o ho hj
    unfold mOf at hj
    simp only [Array.getD_eq_getD_getElem?, Array.getElem?_replicate] at hj
    split at hj <;> cases hj
  · intro j hjs hj
    unfold mOf at hj
    simp only [Array.getD_eq_getD_getElem?, Array.getElem?_replicate] at hj
    split at hj <;> cases hj
  · have : foldM its (mOf (Array.replicate ops.size false)) ops.size s = s := by
      have e : ∀ k, foldM its (fun _ => false) k s = s := by
        intro k
        induction k with
        | zero => rfl
        | succ k ih => simpa [foldM] using ih
      rw [foldM_congr its (m' := fun _ => false) s ops.size fun j hj => by
        unfold mOf
        simp only [Array.getD_eq_getD_getElem?, Array.getElem?_replicate]
        split <;> rfl]
      exact e _
    rw [this]
    exact hC.drew
section
variable {P : Program} {k : List KI} {s : AS} {fn : Func} {res : AV} {ok : Prop}
theorem retX_pan {xs : List (Nat × Prop)} (hp : ok → okX xs) : ¬ okX xs → ∀ chain s, Chn chain → AMx P (RetX P fn res ok) k (.panic chain) s :=
  fun hn chain s hch => AMx.pan k (show ¬ ok ∧ Chn chain from ⟨fun h => hn (hp h), hch⟩)
theorem gSx {id : Nat} {ops : Array Oper} {y : Code} (ces : List (Nat × CE)) (xs : List (Nat × Prop)) (cs : List Prop) (n : Nat) (L : List (Nat × AV)) (H : List (Nat × AObj)) (hc : allP cs) (hp : ok → okX xs) (hk : okX xs → AMx P (RetX P fn res ok) (.code y :: k) .normal (AS.lst n L H))
    (h : evRegX P ops ces xs s (L.map Prod.fst) (H.map Prod.fst) = some (cs, AS.lst n L H) := by kernel_rfl) : AMx P (RetX P fn res ok) (.code (.seq (.region id ops false) y) :: k) .normal s := AMx.seq (AMx.regionX h hc hk (retX_pan hp))
theorem gXx {id : Nat} {ops : Array Oper} (ces : List (Nat × CE)) (ros : List (Nat × List Nat)) (xs : List (Nat × Prop)) (cs : List Prop) (n : Nat) (L : List (Nat × AV)) (H : List (Nat × AObj)) (hm : P.follows .mixedOrders = true) (hc : allP cs) (hp : ok → okX xs) (hk : okX xs → AMx P (RetX P fn res ok) k .normal (AS.lst n L H))
    (h : evDrawX P ops ces ros xs s (L.map Prod.fst) (H.map Prod.fst) = some (cs, AS.lst n L H) := by kernel_rfl) : AMx P (RetX P fn res ok) (.code (.region id ops true) :: k) .normal s := AMx.region_drawX hm h hc hk (retX_pan hp)
theorem gYx {id : Nat} {ops : Array Oper} {y : Code} (ces : List (Nat × CE)) (ros : List (Nat × List Nat)) (xs : List (Nat × Prop)) (cs : List Prop) (n : Nat) (L : List (Nat × AV)) (H : List (Nat × AObj)) (hm : P.follows .mixedOrders = true) (hc : allP cs) (hp : ok → okX xs) (hk : okX xs → AMx P (RetX P fn res ok) (.code y :: k) .normal (AS.lst n L H))
    (h : evDrawX P ops ces ros xs s (L.map Prod.fst) (H.map Prod.fst) = some (cs, AS.lst n L H) := by kernel_rfl) : AMx P (RetX P fn res ok) (.code (.seq (.region id ops true) y) :: k) .normal s := AMx.seq (AMx.region_drawX hm h hc hk (retX_pan hp))
theorem gTx (hok : ok) (r : AV) (hr : r = res) (h : evRes P fn s = some r := by kernel_rfl) : AMx P (RetX P fn res ok) (.code .ret :: k) .normal s := AMx.ret (show ok ∧ RetP P fn res H0 .ret s from ⟨hok, RetP.mk h hr⟩)
end
theorem PureX.of_body {P : Program} {f : FuncId} {fn : Func} {c : Code} {args : List TV} {res : AV} {ok : Prop} {n : Nat} (hf : P.funcs[f]? = some fn) (hb : fn.body = some c) (hn : (fn.name == "runtime.NumGoroutine") = false)
    (hnt : fn.ntmps = n) (hle : Nat.ble args.length n = true) (hno : res.no = true) (h : AMx P (RetX P fn res ok) [.code c] .normal (AS.lst n (argRegs 0 args) [])) : PureX P f args res ok := by
  refine ⟨⟨fn, hf, by rw [hb]; rfl, hn⟩, fun Γ w cargs hh hm => ?_⟩
  refine calls_of_wp hf hb ?_
  have hC := body_start (P := P) (H := []) hnt hle hh hm
  refine wp_mono (h _ _ _ _ hC) ?_
  rintro e a' w' ⟨s', Γ', hR, hC'⟩
  have hh' := heap0 hC'.heap
  have hg' : GOk ⟨w, prOf Γ (ofH []) w, Γ.I, Γ.ρ, Γ.η, []⟩ Γ' H0 w' := hC'.g.sub_obj (fun _ _ h => by cases h)
  let Γ2 : Ctx := ⟨Γ'.I, Γ.ρ, Γ.η⟩
  have hx : Ext (fun _ => True) Γ' w' Γ2 w' := ⟨fun b hb => hb, fun b hb => rfl, fun id h => absurd trivial h⟩
  have hpost : Post Γ H0 w Γ2 [] w' := ⟨⟨fun _ _ h => (by cases h), fun _ _ _ h => (by cases h), fun _ _ _ _ _ h => (by cases h), hh'.ilt, hh'.glob⟩,
      ⟨hg'.os, hg'.tape, hg'.output, hg'.size, hg'.prlt, hg'.keep, hg'.sub, hg'.bak, fun _ _ _ h => (by cases h)⟩, fun _ _ => ⟨rfl, rfl⟩⟩
  have hret : ok ∧ RetP P fn res H0 e s' → (e = .ret ∨ e = .normal) ∧ a'.defers = [] ∧ ∃ v, (results fn a'.tmps).run P w' = Result.ok v w' ∧ ∃ Γ', EndX ok Γ' w' res (.returned v) ∧ Post Γ H0 w Γ' [] w' := by
    rintro ⟨hok, he, r, hr, rfl, hH⟩
    obtain ⟨v, h1, h2, h3⟩ := res_ok (P := P) (fn := fn) hC' hr
    exact ⟨he, hC'.defers, v, h1, Γ2, .inl ⟨hok, v, rfl, MV.ext hx (fun id o h => absurd trivial h) (AV.no_has r hno) (plain_obj (obj' := H0) h3 h2)⟩, hpost⟩
  cases e with
  | panic chain => exact ⟨hC'.defers, Γ2, .inr ⟨hR.1, chain, rfl, hR.2⟩, hpost⟩
  | ret => exact (hret hR).2
  | normal => exact (hret hR).2
  | _ => exact absurd (hret hR).1 (by simp)
end AL
namespace AL.Reply
open Go Go.Proofs AL
set_option linter.unusedVariables false
set_option linter.unusedSimpArgs false
theorem post_same {Γ : Ctx} {w : World} (hh : HeapOk Γ H0 w) : Post Γ H0 w Γ [] w :=
  ⟨hh, ⟨rfl, rfl, rfl, Nat.le_refl _, fun b hb => hb.1, fun _ _ => rfl, fun _ h => h, fun _ _ h => h, fun _ _ _ h => by cases h⟩, fun _ _ => ⟨rfl, rfl⟩⟩
set_option maxHeartbeats 1600000 in
theorem must_c (b : Bool) : PureX Tryd.prog 42 [tc (bo b)] (.tup []) (b = true) := by
  refine ⟨⟨_, Tryd.func42, by kernel_rfl, by kernel_rfl⟩, fun Γ w cargs hh hm => ?_⟩
  obtain ⟨u, rfl, rfl⟩ := args1 hm
  cases b
  · go_enter Tryd.func42, Tryd.ntmps42
    go_wp2
    have hpan : (Sem.run Tryd.prog (Instr.panic (Value.iface 104 (Value.agg #[]))) w) = Result.halt (.panic (Value.iface 104 (Value.agg #[]))) w := by
      unfold Instr.panic; simp [go_sem]
    simp only [hpan, Result.andThen]
    exact ⟨rfl, Γ, .inr ⟨by simp, _, rfl, _, _, rfl⟩, post_same hh⟩
  · go_enter Tryd.func42, Tryd.ntmps42
    go_wp2
    exact ⟨rfl, .tuple #[], by unfold results; rw [show Tryd.f42.results = #[] by kernel_rfl]; simp, Γ, .inl ⟨trivial, _, rfl, ⟨#[], rfl, trivial⟩⟩, post_same hh⟩
end AL.Reply
namespace Go.Proofs
open Go.Shelf
def Tryd.lays156_ren : Go.Shelf.Ren := ⟨fun | 156 => 20 | 165 => 48 | 166 => 49 | 169 => 50 | 240 => 70 | 241 => 71 | 276 => 78 | 277 => 79 | n => n, fun | 31 => 22 | 9 => 9 | 3 => 3 | 4 => 4 | 0 => 0 | 20 => 20 | 72 => 83 | 76 => 87 | 70 => 80 | 37 => 81 | 75 => 86 | 127 => 109 | 164 => 114 | 5 => 5 | 80 => 89 | n => n, fun | n => n⟩
theorem Tryd.lays156 : Go.Proofs.Lays.n156 Tryd.prog Tryd.lays156_ren := {
  mixed := by kernel_rfl
  f156 := Tryd.func20.trans (congrArg some (by kernel_rfl))
  f165 := Tryd.func48.trans (congrArg some (by kernel_rfl))
  f166 := Tryd.func49.trans (congrArg some (by kernel_rfl))
  f169 := Tryd.func50.trans (congrArg some (by kernel_rfl))
  f240 := Tryd.func70.trans (congrArg some (by kernel_rfl))
  f241 := Tryd.func71.trans (congrArg some (by kernel_rfl))
  f276 := Tryd.func78.trans (congrArg some (by kernel_rfl))
  f277 := Tryd.func79.trans (congrArg some (by kernel_rfl))
  t0 := Tryd.underlying0
  a0 := Tryd.isAgg0
  z0 := Tryd.sizeOf0
  v0 := Tryd.zeroValue0
  t3 := Tryd.underlying3
  a3 := Tryd.isAgg3
  z3 := Tryd.sizeOf3
  v3 := Tryd.zeroValue3
  t4 := Tryd.underlying4
  a4 := Tryd.isAgg4
  z4 := Tryd.sizeOf4
  v4 := Tryd.zeroValue4
  t9 := Tryd.underlying9
  a9 := Tryd.isAgg9
  z9 := Tryd.sizeOf9
  v9 := Tryd.zeroValue9
  t20 := Tryd.underlying20
  a20 := Tryd.isAgg20
  z20 := Tryd.sizeOf20
  v20 := Tryd.zeroValue20
  t31 := Tryd.underlying22
  a31 := Tryd.isAgg22
  z31 := Tryd.sizeOf22
  v31 := Tryd.zeroValue22
  t37 := Tryd.underlying81
  a37 := Tryd.isAgg81
  z37 := Tryd.sizeOf81
  v37 := Tryd.zeroValue81
  t70 := Tryd.underlying80
  a70 := Tryd.isAgg80
  z70 := Tryd.sizeOf80
  v70 := Tryd.zeroValue80
  t72 := Tryd.underlying83
  a72 := Tryd.isAgg83
  z72 := Tryd.sizeOf83
  v72 := Tryd.zeroValue83
  t75 := Tryd.underlying86
  a75 := Tryd.isAgg86
  z75 := Tryd.sizeOf86
  v75 := Tryd.zeroValue86
  t76 := Tryd.underlying87
  a76 := Tryd.isAgg87
  z76 := Tryd.sizeOf87
  v76 := Tryd.zeroValue87
  t127 := Tryd.underlying109
  a127 := Tryd.isAgg109
  z127 := Tryd.sizeOf109
  v127 := Tryd.zeroValue109
  t164 := Tryd.underlying114
  a164 := Tryd.isAgg114
  z164 := Tryd.sizeOf114
  v164 := Tryd.zeroValue114 }
theorem Tryd.Builder_Extra_156 : Builder.Extra Tryd.prog Tryd.lays156_ren := {
  sizeBuilder := by kernel_rfl
  liesBuilder := by kernel_rfl
  t5 := Tryd.underlying5
  a5 := Tryd.isAgg5
  z5 := Tryd.sizeOf5
  v5 := Tryd.zeroValue5
  infoByte := by kernel_rfl
  cellsByte := by kernel_rfl
  sizeByte := by kernel_rfl
  neB5 := by decide }
open Go.RowKit in
theorem Tryd.strings_Join_none (a : Option Addr) (c : Nat) (sep : ByteArray) (w : World) :
    Calls Tryd.prog 20 #[.slice a 0 c, .string sep] w fun e w' => e = .returned (.string ⟨#[]⟩) ∧ w' = w := Any.strings_Join_none Tryd.lays156 Tryd.Builder_Extra_156 a c sep w
open Go.RowKit in
theorem Tryd.strings_Join (bk o c : Nat) (xs : List ByteArray) (sep : ByteArray) (w : World) (hcells : ∀ (j : Nat) x, xs[j]? = some x → w.cell? ⟨bk, o + j, none⟩ = some (.string x)) (hbk : bk < w.heap.size) (hN : xs.length ≤ 140737488355328) (hcap : xs.length ≤ c) (hlen : (Lib.join (xs.map (·.data.toList)) sep.data.toList).length ≤ 140737488355328) :
    Calls Tryd.prog 20 #[.slice (some ⟨bk, o, none⟩) xs.length c, .string sep] w fun e w' => e = .returned (.string ⟨(Lib.join (xs.map (·.data.toList)) sep.data.toList).toArray⟩) ∧ Below w.heap.size w w' := Any.strings_Join Tryd.lays156 Tryd.Builder_Extra_156 bk o c xs sep w hcells hbk hN hcap hlen
def Tryd.lays143_ren : Go.Shelf.Ren := ⟨fun | 143 => 72 | 219 => 80 | 217 => 86 | 225 => 87 | 224 => 88 | 267 => 89 | 266 => 92 | 314 => 93 | n => n, fun | 9 => 9 | 3 => 3 | 4 => 4 | 5 => 5 | 46 => 110 | 146 => 124 | 51 => 123 | n => n, fun | 1 => 0 | n => n⟩
theorem Tryd.lays143 : Go.Proofs.Lays.n143 Tryd.prog Tryd.lays143_ren := {
  mixed := by kernel_rfl
  f143 := Tryd.func72.trans (congrArg some (by kernel_rfl))
  f217 := Tryd.func86.trans (congrArg some (by kernel_rfl))
  f219 := Tryd.func80.trans (congrArg some (by kernel_rfl))
  f224 := Tryd.func88.trans (congrArg some (by kernel_rfl))
  f225 := Tryd.func87.trans (congrArg some (by kernel_rfl))
  f266 := Tryd.func92.trans (congrArg some (by kernel_rfl))
  f267 := Tryd.func89.trans (congrArg some (by kernel_rfl))
  f314 := Tryd.func93.trans (congrArg some (by kernel_rfl))
  t3 := Tryd.underlying3
  a3 := Tryd.isAgg3
  z3 := Tryd.sizeOf3
  v3 := Tryd.zeroValue3
  t4 := Tryd.underlying4
  a4 := Tryd.isAgg4
  z4 := Tryd.sizeOf4
  v4 := Tryd.zeroValue4
  t5 := Tryd.underlying5
  a5 := Tryd.isAgg5
  z5 := Tryd.sizeOf5
  v5 := Tryd.zeroValue5
  t9 := Tryd.underlying9
  a9 := Tryd.isAgg9
  z9 := Tryd.sizeOf9
  v9 := Tryd.zeroValue9
  t46 := Tryd.underlying110
  a46 := Tryd.isAgg110
  z46 := Tryd.sizeOf110
  v46 := Tryd.zeroValue110
  t51 := Tryd.underlying123
  a51 := Tryd.isAgg123
  z51 := Tryd.sizeOf123
  v51 := Tryd.zeroValue123
  t146 := Tryd.underlying124
  a146 := Tryd.isAgg124
  z146 := Tryd.sizeOf124
  v146 := Tryd.zeroValue124
  g1 := by kernel_rfl }
open Go.RowKit Go.Lib in
theorem Tryd.strings_Index_one (s : ByteArray) (c : UInt8) (w : World) :
    Calls Tryd.prog 72 #[.string s, .string ⟨#[c]⟩] w fun e w' => e = .returned (.int .i64 (Lib.indexByte s.data.toList c)) ∧ w' = w := Any.strings_Index_one Tryd.lays143 s c w
def Tryd.lays138_ren : Go.Shelf.Ren := ⟨fun | 138 => 74 | 195 => 81 | 218 => 83 | 143 => 72 | 219 => 80 | 217 => 86 | 225 => 87 | 224 => 88 | 267 => 89 | 266 => 92 | 314 => 93 | n => n, fun | 9 => 9 | 3 => 3 | 4 => 4 | 5 => 5 | 0 => 0 | 46 => 110 | 146 => 124 | 51 => 123 | n => n, fun | 1 => 0 | n => n⟩
theorem Tryd.lays138 : Go.Proofs.Lays.n138 Tryd.prog Tryd.lays138_ren := {
  mixed := by kernel_rfl
  f138 := Tryd.func74.trans (congrArg some (by kernel_rfl))
  f143 := Tryd.func72.trans (congrArg some (by kernel_rfl))
  f195 := Tryd.func81.trans (congrArg some (by kernel_rfl))
  f217 := Tryd.func86.trans (congrArg some (by kernel_rfl))
  f218 := Tryd.func83.trans (congrArg some (by kernel_rfl))
  f219 := Tryd.func80.trans (congrArg some (by kernel_rfl))
  f224 := Tryd.func88.trans (congrArg some (by kernel_rfl))
  f225 := Tryd.func87.trans (congrArg some (by kernel_rfl))
  f266 := Tryd.func92.trans (congrArg some (by kernel_rfl))
  f267 := Tryd.func89.trans (congrArg some (by kernel_rfl))
  f314 := Tryd.func93.trans (congrArg some (by kernel_rfl))
  t0 := Tryd.underlying0
  a0 := Tryd.isAgg0
  z0 := Tryd.sizeOf0
  v0 := Tryd.zeroValue0
  t3 := Tryd.underlying3
  a3 := Tryd.isAgg3
  z3 := Tryd.sizeOf3
  v3 := Tryd.zeroValue3
  t4 := Tryd.underlying4
  a4 := Tryd.isAgg4
  z4 := Tryd.sizeOf4
  v4 := Tryd.zeroValue4
  t5 := Tryd.underlying5
  a5 := Tryd.isAgg5
  z5 := Tryd.sizeOf5
  v5 := Tryd.zeroValue5
  t9 := Tryd.underlying9
  a9 := Tryd.isAgg9
  z9 := Tryd.sizeOf9
  v9 := Tryd.zeroValue9
  t46 := Tryd.underlying110
  a46 := Tryd.isAgg110
  z46 := Tryd.sizeOf110
  v46 := Tryd.zeroValue110
  t51 := Tryd.underlying123
  a51 := Tryd.isAgg123
  z51 := Tryd.sizeOf123
  v51 := Tryd.zeroValue123
  t146 := Tryd.underlying124
  a146 := Tryd.isAgg124
  z146 := Tryd.sizeOf124
  v146 := Tryd.zeroValue124
  g1 := by kernel_rfl }
open Go.RowKit Go.Lib in
theorem Tryd.strings_Count_one (s : ByteArray) (c : UInt8) (w : World) :
    Calls Tryd.prog 74 #[.string s, .string ⟨#[c]⟩] w fun e w' => e = .returned (.int .i64 (Lib.countByte s.data.toList c)) ∧ w' = w := Any.strings_Count_one Tryd.lays138 s c w
def Tryd.lays260_ren : Go.Shelf.Ren := ⟨fun | 260 => 90 | n => n, fun | 9 => 9 | 21 => 21 | 3 => 3 | 4 => 4 | 5 => 5 | 119 => 126 | 0 => 0 | 46 => 110 | 139 => 129 | 138 => 128 | n => n, fun | 3 => 1 | 4 => 2 | n => n⟩
theorem Tryd.lays260 : Go.Proofs.Lays.n260 Tryd.prog Tryd.lays260_ren := {
  mixed := by kernel_rfl
  f260 := Tryd.func90.trans (congrArg some (by kernel_rfl))
  t0 := Tryd.underlying0
  a0 := Tryd.isAgg0
  z0 := Tryd.sizeOf0
  v0 := Tryd.zeroValue0
  t3 := Tryd.underlying3
  a3 := Tryd.isAgg3
  z3 := Tryd.sizeOf3
  v3 := Tryd.zeroValue3
  t4 := Tryd.underlying4
  a4 := Tryd.isAgg4
  z4 := Tryd.sizeOf4
  v4 := Tryd.zeroValue4
  t5 := Tryd.underlying5
  a5 := Tryd.isAgg5
  z5 := Tryd.sizeOf5
  v5 := Tryd.zeroValue5
  t9 := Tryd.underlying9
  a9 := Tryd.isAgg9
  z9 := Tryd.sizeOf9
  v9 := Tryd.zeroValue9
  t21 := Tryd.underlying21
  a21 := Tryd.isAgg21
  z21 := Tryd.sizeOf21
  v21 := Tryd.zeroValue21
  t46 := Tryd.underlying110
  a46 := Tryd.isAgg110
  z46 := Tryd.sizeOf110
  v46 := Tryd.zeroValue110
  t119 := Tryd.underlying126
  a119 := Tryd.isAgg126
  z119 := Tryd.sizeOf126
  t138 := Tryd.underlying128
  a138 := Tryd.isAgg128
  z138 := Tryd.sizeOf128
  v138 := Tryd.zeroValue128
  t139 := Tryd.underlying129
  a139 := Tryd.isAgg129
  z139 := Tryd.sizeOf129
  v139 := Tryd.zeroValue129
  g3 := by kernel_rfl
  g4 := by kernel_rfl }
end Go.Proofs
namespace AL.Sep
open Go Go.Proofs Go.RowKit AL
set_option linter.unusedVariables false
set_option linter.unusedSimpArgs false
theorem Count_c (k : UInt8) (s : Bytes) : Pure Tryd.prog 74 [tc (st s), tc (st [k])] (vc (i6 ((s.count k : Nat) : Int))) := by
  refine Pure.of_calls ⟨_, Tryd.func74, by kernel_rfl, by kernel_rfl⟩ fun Γ w cargs hm => ?_
  obtain ⟨u, v, rfl, ⟨rfl, hu⟩, ⟨rfl, hv⟩⟩ := args2 hm
  refine (Tryd.strings_Count_one (ba s) k w).mono ?_
  rintro e w' ⟨rfl, rfl⟩
  have h1 : s.count k ≤ s.length := List.count_le_length
  simp only [maxLen] at hu
  exact ⟨_, rfl, rfl, rfl, inR64 (by omega) (by omega)⟩
theorem Index_c (k : UInt8) (s : Bytes) : Pure Tryd.prog 72 [tc (st s), tc (st [k])] (vc (i6 (Go.Lib.indexByte s k))) := by
  refine Pure.of_calls ⟨_, Tryd.func72, by kernel_rfl, by kernel_rfl⟩ fun Γ w cargs hm => ?_
  obtain ⟨u, v, rfl, ⟨rfl, hu⟩, ⟨rfl, hv⟩⟩ := args2 hm
  refine (Tryd.strings_Index_one (ba s) k w).mono ?_
  rintro e w' ⟨rfl, rfl⟩
  have := index_rng k s
  simp only [maxLen] at hu
  exact ⟨_, rfl, rfl, rfl, inR64 (by omega) (by omega)⟩
theorem lib_join (c : UInt8) : ∀ (l : List Bytes), Go.Lib.join l [c] = joinC c l
  | [] => rfl
  | [p] => Go.Lib.join_one p [c]
  | p :: q :: l => by
    have ih := lib_join c (q :: l)
    unfold Go.Lib.join at ih ⊢
    show _ = p ++ c :: joinC c (q :: l)
    rw [← ih]
    simp [List.intercalate, List.intersperse]
theorem Join_c (c : UInt8) (l : List Bytes) (hb : (joinC c l).length ≤ 100000) : Pure Tryd.prog 20 [tc (AL.Fnv.slS l), tc (st [c])] (vc (st (joinC c l))) := by
  refine Pure.of_below ⟨_, Tryd.func20, by kernel_rfl, by kernel_rfl⟩ fun Γ w cargs hh hm => ?_
  obtain ⟨u, v, rfl, hu, ⟨rfl, hv⟩⟩ := args2 hm
  obtain ⟨a, cap, rfl, h1, h2, h3⟩ := hu
  have fin : MV Γ H0 w (vc (st (joinC c l))) (.string (ba (joinC c l))) := ⟨rfl, by simp only [maxLen]; omega⟩
  rcases h3 with ⟨rfl, h3⟩ | ⟨b, off, rfl, hI, hc⟩
  · refine (Tryd.strings_Join_none a cap (ba [c]) w).mono ?_
    rintro e w' ⟨rfl, rfl⟩
    exact ⟨_, rfl, Below.refl _ _, rfl, Nat.zero_le _⟩
  · have hcells : ∀ (j : Nat) x, (l.map ba)[j]? = some x → w.cell? ⟨b, off + j, none⟩ = some (.string x) := by
      intro j x hx
      rw [List.getElem?_map, Option.map_eq_some_iff] at hx
      obtain ⟨y, hy, rfl⟩ := hx
      obtain ⟨u, hu, hmu⟩ := hc j y hy 0 (by omega)
      obtain ⟨rfl, _⟩ := (show u = .string (ba y) ∧ _ from hmu)
      rw [Nat.mul_one, Nat.add_zero] at hu
      exact hu
    have hl : ((l.map ba).map (·.data.toList)) = l := by
      rw [List.map_map]
      conv => rhs; rw [← List.map_id l]
      exact List.map_congr_left fun x _ => rfl
    have hlen : (l.map ba).length = l.length := List.length_map _
    have hj : Go.Lib.join ((l.map ba).map (·.data.toList)) (ba [c]).data.toList = joinC c l := by rw [hl]; exact lib_join c l
    have := Tryd.strings_Join b off cap (l.map ba) (ba [c]) w hcells (hh.ilt b hI) (by have := join_count c l; rw [hlen]; omega) (by rw [hlen]; exact h1) (by rw [hj]; omega)
    rw [hlen, hj] at this
    refine this.mono ?_
    rintro e w' ⟨rfl, hbel⟩
    exact ⟨_, rfl, hbel, rfl, by simp only [maxLen]; omega⟩
end AL.Sep
namespace AL.Sep
open Go Go.Proofs AL
set_option linter.unusedVariables false
set_option linter.unusedSimpArgs false
theorem f64_body : Tryd.f64.body = some (.seq (.region 0 (rg Tryd.f64 0) false) (.seq (.seq (.region 1 (rg Tryd.f64 1) false) (.cond (.tmp 13) (.seq (.region 2 (rg Tryd.f64 2) false) (.ret)) (.skip))) (.seq (.seq (.region 3 (rg Tryd.f64 3) false) (.cond (.tmp 15) (.seq (.region 4 (rg Tryd.f64 4) false) (.ret)) (.skip))) (.seq (.seq (.region 5 (rg Tryd.f64 5) false) (.cond (.tmp 20) (.region 6 (rg Tryd.f64 6) false) (.skip))) (.seq (.region 7 (rg Tryd.f64 7) false) (.seq (.region 8 (rg Tryd.f64 8) false) (.seq (.region 9 (rg Tryd.f64 9) false) (.seq (.region 10 (rg Tryd.f64 10) false) (.seq (.block 0 (.loop (.seq (.seq (.region 11 (rg Tryd.f64 11) false) (.cond (.tmp 36) (.skip) (.exit 0))) (.block 1 (.seq (.region 12 (rg Tryd.f64 12) false) (.seq (.seq (.region 13 (rg Tryd.f64 13) false) (.cond (.tmp 41) (.exit 0) (.skip))) (.seq (.region 14 (rg Tryd.f64 14) false) (.seq (.region 15 (rg Tryd.f64 15) false) (.region 16 (rg Tryd.f64 16) false))))))))) (.seq (.region 17 (rg Tryd.f64 17) false) (.seq (.region 18 (rg Tryd.f64 18) false) (.ret)))))))))))) := by kernel_rfl
set_option maxRecDepth 100000 in
set_option maxHeartbeats 8000000 in
theorem genSplit_c (k : UInt8) (s : Bytes) (hb : s.length ≤ 100000) : Pure Tryd.prog 64 [tc (st s), tc (st [k]), tc (i6 0), tc (i6 (-1))] (vc (AL.Fnv.slS (splitC k s))) := by
 refine Pure.of_body Tryd.func64 f64_body (by kernel_rfl) Tryd.ntmps64 (by kernel_rfl) (by kernel_rfl) ?_
 have hn := gen_n k s
 have hcn : List.count k s ≤ s.length := List.count_le_length
 refine gS [] [] 66 [(0, vc (st s)), (1, vc (st [k])), (2, vc (i6 0)), (3, vc (i6 (-1)))] [] trivial ?_
 refine gQ ?_
 refine gS [] [] 66 [(0, vc (st s)), (1, vc (st [k])), (2, vc (i6 0)), (3, vc (i6 (-1))), (13, vc (bo false))] [] trivial ?_
 refine gBf ?_
 refine AMx.skip ?_
 refine gQ ?_
 refine gS [] [] 66 [(0, vc (st s)), (1, vc (st [k])), (2, vc (i6 0)), (3, vc (i6 (-1))), (15, vc (bo false))] [] trivial ?_
 refine gBf ?_
 refine AMx.skip ?_
 refine gQ ?_
 refine gS [] [] 66 [(0, vc (st s)), (1, vc (st [k])), (2, vc (i6 0)), (3, vc (i6 (-1))), (20, vc (bo true))] [] trivial ?_
 refine gBt ?_
 refine gR [(2, CE.call [] [] (vc (i6 ((List.count (k : UInt8) s : Nat) : Int))) [])] [Spec Tryd.prog 74 [tc (st s), tc (st [k])] (ofH []) (vc (i6 ((List.count (k : UInt8) s : Nat) : Int))) (ofH []), InR .i64 (((List.count (k : UInt8) s : Nat) : Int) + 1)] 66 [(0, vc (st s)), (1, vc (st [k])), (2, vc (i6 0)), (3, vc (i6 (((List.count (k : UInt8) s : Nat) : Int) + 1)))] [] ⟨(AL.Sep.Count_c k s), (show InR .i64 (((List.count (k : UInt8) s : Nat) : Int) + 1) from (inR64 (by first | omega | (have hx := index_rng k c; first | omega | (simp only [List.length_cons, List.length_nil]; omega) | (have hz := gen_le hP; first | omega | (simp only [List.length_append, List.length_replicate, List.length_set]; omega)))) (by first | omega | (have hx := index_rng k c; first | omega | (simp only [List.length_cons, List.length_nil]; omega) | (have hz := gen_le hP; first | omega | (simp only [List.length_append, List.length_replicate, List.length_set]; omega))))))⟩ ?_
 refine gS [] [InR .i64 ((List.length s : Int) + 1)] 66 [(0, vc (st s)), (1, vc (st [k])), (2, vc (i6 0)), (3, vc (i6 (min (((List.count (k : UInt8) s : Nat) : Int) + 1) ((List.length s : Int) + 1))))] [] (show InR .i64 ((List.length s : Int) + 1) from (inR64 (by first | omega | (have hx := index_rng k c; first | omega | (simp only [List.length_cons, List.length_nil]; omega) | (have hz := gen_le hP; first | omega | (simp only [List.length_append, List.length_replicate, List.length_set]; omega)))) (by first | omega | (have hx := index_rng k c; first | omega | (simp only [List.length_cons, List.length_nil]; omega) | (have hz := gen_le hP; first | omega | (simp only [List.length_append, List.length_replicate, List.length_set]; omega)))))) ?_
 refine gS [(1, CE.obj (AObj.grow 9 1 Bytes [] AL.Fnv.rowS (List.replicate (min (((List.count (k : UInt8) s : Nat) : Int) + 1) ((List.length s : Int) + 1)).toNat [])))] [0 ≤ min (((List.count (k : UInt8) s : Nat) : Int) + 1) ((List.length s : Int) + 1), min (((List.count (k : UInt8) s : Nat) : Int) + 1) ((List.length s : Int) + 1) ≤ min (((List.count (k : UInt8) s : Nat) : Int) + 1) ((List.length s : Int) + 1), (16 : Int) * (min (((List.count (k : UInt8) s : Nat) : Int) + 1) ((List.length s : Int) + 1)) ≤ 281474976710656, min (((List.count (k : UInt8) s : Nat) : Int) + 1) ((List.length s : Int) + 1) ≤ 9223372036854775807, MakeC (min (((List.count (k : UInt8) s : Nat) : Int) + 1) ((List.length s : Int) + 1)).toNat [.s (st [])] (AObj.grow 9 1 Bytes [] AL.Fnv.rowS (List.replicate (min (((List.count (k : UInt8) s : Nat) : Int) + 1) ((List.length s : Int) + 1)).toNat []))] 66 [(0, vc (st s)), (1, vc (st [k])), (2, vc (i6 0)), (3, vc (i6 (min (((List.count (k : UInt8) s : Nat) : Int) + 1) ((List.length s : Int) + 1)))), (9, vo 31)] [(31, AObj.grow 9 1 Bytes [] AL.Fnv.rowS (List.replicate (min (((List.count (k : UInt8) s : Nat) : Int) + 1) ((List.length s : Int) + 1)).toNat []))] ⟨(show 0 ≤ min (((List.count (k : UInt8) s : Nat) : Int) + 1) ((List.length s : Int) + 1) from (by first | omega | (have hx := index_rng k c; first | omega | (simp only [List.length_cons, List.length_nil]; omega) | (have hz := gen_le hP; first | omega | (simp only [List.length_append, List.length_replicate, List.length_set]; omega))))), (show min (((List.count (k : UInt8) s : Nat) : Int) + 1) ((List.length s : Int) + 1) ≤ min (((List.count (k : UInt8) s : Nat) : Int) + 1) ((List.length s : Int) + 1) from (by first | omega | (have hx := index_rng k c; first | omega | (simp only [List.length_cons, List.length_nil]; omega) | (have hz := gen_le hP; first | omega | (simp only [List.length_append, List.length_replicate, List.length_set]; omega))))), (show (16 : Int) * (min (((List.count (k : UInt8) s : Nat) : Int) + 1) ((List.length s : Int) + 1)) ≤ 281474976710656 from (by first | omega | (have hx := index_rng k c; first | omega | (simp only [List.length_cons, List.length_nil]; omega) | (have hz := gen_le hP; first | omega | (simp only [List.length_append, List.length_replicate, List.length_set]; omega))))), (show min (((List.count (k : UInt8) s : Nat) : Int) + 1) ((List.length s : Int) + 1) ≤ 9223372036854775807 from (by first | omega | (have hx := index_rng k c; first | omega | (simp only [List.length_cons, List.length_nil]; omega) | (have hz := gen_le hP; first | omega | (simp only [List.length_append, List.length_replicate, List.length_set]; omega))))), (⟨_, rfl, rfl⟩)⟩ ?_
 refine gS [] [InR .i64 ((min (((List.count (k : UInt8) s : Nat) : Int) + 1) ((List.length s : Int) + 1)) - 1)] 66 [(0, vc (st s)), (1, vc (st [k])), (2, vc (i6 0)), (3, vc (i6 ((min (((List.count (k : UInt8) s : Nat) : Int) + 1) ((List.length s : Int) + 1)) - 1))), (9, vo 31)] [(31, AObj.grow 9 1 Bytes [] AL.Fnv.rowS (List.replicate (min (((List.count (k : UInt8) s : Nat) : Int) + 1) ((List.length s : Int) + 1)).toNat []))] (show InR .i64 ((min (((List.count (k : UInt8) s : Nat) : Int) + 1) ((List.length s : Int) + 1)) - 1) from (inR64 (by first | omega | (have hx := index_rng k c; first | omega | (simp only [List.length_cons, List.length_nil]; omega) | (have hz := gen_le hP; first | omega | (simp only [List.length_append, List.length_replicate, List.length_set]; omega)))) (by first | omega | (have hx := index_rng k c; first | omega | (simp only [List.length_cons, List.length_nil]; omega) | (have hz := gen_le hP; first | omega | (simp only [List.length_append, List.length_replicate, List.length_set]; omega)))))) ?_
 refine gS [] [] 66 [(0, vc (st s)), (1, vc (st [k])), (2, vc (i6 0)), (3, vc (i6 ((min (((List.count (k : UInt8) s : Nat) : Int) + 1) ((List.length s : Int) + 1)) - 1))), (9, vo 31), (10, vc (i6 0))] [(31, AObj.grow 9 1 Bytes [] AL.Fnv.rowS (List.replicate (min (((List.count (k : UInt8) s : Nat) : Int) + 1) ((List.length s : Int) + 1)).toNat []))] trivial ?_
 refine gQ ?_
 refine AMx.block ?_
 refine AMx.ent (s' := AS.lst 66 [(0, vc (st s)), (1, vc (st [k])), (2, vc (i6 0)), (3, vc (i6 ((min (((List.count (k : UInt8) s : Nat) : Int) + 1) ((List.length s : Int) + 1)) - 1))), (9, vo 31), (10, vc (i6 0))] [(31, AObj.grow 9 1 Bytes [] AL.Fnv.rowS (List.replicate (min (((List.count (k : UInt8) s : Nat) : Int) + 1) ((List.length s : Int) + 1)).toNat []))]) (ent_proj [0, 1, 2, 3, 9, 10] [31]) ?_
 refine AMx.loop (fun mm ss => ∃ (o : List Bytes) (c : Bytes), (splitC k s = o ++ splitC k c ∧ c.length ≤ s.length) ∧ mm = c.length ∧ ss = AS.lst 66 [(0, vc (st c)), (1, vc (st [k])), (2, vc (i6 0)), (3, vc (i6 ((min (((List.count (k : UInt8) s : Nat) : Int) + 1) ((List.length s : Int) + 1)) - 1))), (9, vo 31), (10, vc (i6 (List.length o : Int)))] [(31, AObj.grow 9 1 Bytes [] AL.Fnv.rowS (o ++ List.replicate (splitC k c).length []))]) ⟨[], s, ?_, rfl, ?_⟩ ?_
 · exact ⟨rfl, Nat.le_refl _⟩
 · rw [hn]; rfl
 rintro mm ss ⟨o, c, ⟨hP, hL⟩, rfl, rfl⟩
 refine gQ ?_
 refine gS [] [] 66 [(0, vc (st c)), (1, vc (st [k])), (2, vc (i6 0)), (3, vc (i6 ((min (((List.count (k : UInt8) s : Nat) : Int) + 1) ((List.length s : Int) + 1)) - 1))), (9, vo 31), (10, vc (i6 (List.length o : Int))), (36, vc (bo (decide ((List.length o : Int) < (min (((List.count (k : UInt8) s : Nat) : Int) + 1) ((List.length s : Int) + 1)) - 1))))] [(31, AObj.grow 9 1 Bytes [] AL.Fnv.rowS (o ++ List.replicate (splitC k c).length []))] trivial ?_
 refine gC ((List.length o : Int) < (min (((List.count (k : UInt8) s : Nat) : Int) + 1) ((List.length s : Int) + 1)) - 1) (fun hc4 => ?_) fun hc4 => ?_
 ·
  refine AMx.skip ?_
  refine AMx.block ?_
  refine gS [(2, CE.call [] [] (vc (i6 (Go.Lib.indexByte c k))) [])] [Spec Tryd.prog 72 [tc (st c), tc (st [k])] (ofH []) (vc (i6 (Go.Lib.indexByte c k))) (ofH [])] 66 [(0, vc (st c)), (1, vc (st [k])), (2, vc (i6 0)), (3, vc (i6 ((min (((List.count (k : UInt8) s : Nat) : Int) + 1) ((List.length s : Int) + 1)) - 1))), (9, vo 31), (10, vc (i6 (List.length o : Int))), (11, vc (i6 (Go.Lib.indexByte c k)))] [(31, AObj.grow 9 1 Bytes [] AL.Fnv.rowS (o ++ List.replicate (splitC k c).length []))] (AL.Sep.Index_c k c) ?_
  refine gQ ?_
  refine gS [] [] 66 [(0, vc (st c)), (1, vc (st [k])), (2, vc (i6 0)), (3, vc (i6 ((min (((List.count (k : UInt8) s : Nat) : Int) + 1) ((List.length s : Int) + 1)) - 1))), (9, vo 31), (10, vc (i6 (List.length o : Int))), (11, vc (i6 (Go.Lib.indexByte c k))), (41, vc (bo (decide (Go.Lib.indexByte c k < 0))))] [(31, AObj.grow 9 1 Bytes [] AL.Fnv.rowS (o ++ List.replicate (splitC k c).length []))] trivial ?_
  refine gC (Go.Lib.indexByte c k < 0) (fun hc5 => ?_) fun hc5 => ?_
  ·
   refine AMx.exit ?_
   refine AMx.code_exit ?_
   refine AMx.blk_pass rfl ?_
   refine AMx.inv_exit ?_
   refine AMx.blk_exit ?_
   refine gS [(4, CE.obj (AObj.grow 9 1 Bytes [] AL.Fnv.rowS (List.set (o ++ List.replicate (splitC k c).length []) (List.length o) c)))] [(0 : Int) ≤ (List.length o : Int), (List.length o : Int) < List.length (o ++ List.replicate (splitC k c).length [] : List Bytes), StoreC (List.length o) 0 [.s (st c)] (AObj.grow 9 1 Bytes [] AL.Fnv.rowS (o ++ List.replicate (splitC k c).length [])) (AObj.grow 9 1 Bytes [] AL.Fnv.rowS (List.set (o ++ List.replicate (splitC k c).length []) (List.length o) c))] 66 [(9, vo 31), (10, vc (i6 (List.length o : Int)))] [(31, AObj.grow 9 1 Bytes [] AL.Fnv.rowS (List.set (o ++ List.replicate (splitC k c).length []) (List.length o) c))] ⟨(show (0 : Int) ≤ (List.length o : Int) from (by first | omega | (have hx := index_rng k c; first | omega | (simp only [List.length_cons, List.length_nil]; omega) | (have hz := gen_le hP; first | omega | (simp only [List.length_append, List.length_replicate, List.length_set]; omega))))), (show (List.length o : Int) < List.length (o ++ List.replicate (splitC k c).length [] : List Bytes) from (by first | omega | (have hx := index_rng k c; first | omega | (simp only [List.length_cons, List.length_nil]; omega) | (have hz := gen_le hP; first | omega | (simp only [List.length_append, List.length_replicate, List.length_set]; omega))))), (⟨c, rfl, by first | omega | (have hx := index_rng k c; first | omega | (simp only [List.length_cons, List.length_nil]; omega) | (have hz := gen_le hP; first | omega | (simp only [List.length_append, List.length_replicate, List.length_set]; omega))), rfl⟩)⟩ ?_
   refine gS [] [InR .i64 ((List.length o : Int) + 1), 0 ≤ (List.length o : Int) + 1, (List.length o : Int) + 1 ≤ (List.length (List.set (o ++ List.replicate (splitC k c).length []) (List.length o) c : List Bytes) : Int)] 66 [(8, vo 65)] [(65, AObj.grow 9 1 Bytes [] AL.Fnv.rowS (List.take ((List.length o) + 1) (List.set (o ++ List.replicate (splitC k c).length []) (List.length o) c)))] ⟨(show InR .i64 ((List.length o : Int) + 1) from (inR64 (by first | omega | (have hx := index_rng k c; first | omega | (simp only [List.length_cons, List.length_nil]; omega) | (have hz := gen_le hP; first | omega | (simp only [List.length_append, List.length_replicate, List.length_set]; omega)))) (by first | omega | (have hx := index_rng k c; first | omega | (simp only [List.length_cons, List.length_nil]; omega) | (have hz := gen_le hP; first | omega | (simp only [List.length_append, List.length_replicate, List.length_set]; omega)))))), (show 0 ≤ (List.length o : Int) + 1 from (by first | omega | (have hx := index_rng k c; first | omega | (simp only [List.length_cons, List.length_nil]; omega) | (have hz := gen_le hP; first | omega | (simp only [List.length_append, List.length_replicate, List.length_set]; omega))))), (show (List.length o : Int) + 1 ≤ (List.length (List.set (o ++ List.replicate (splitC k c).length []) (List.length o) c : List Bytes) : Int) from (by first | omega | (have hx := index_rng k c; first | omega | (simp only [List.length_cons, List.length_nil]; omega) | (have hz := gen_le hP; first | omega | (simp only [List.length_append, List.length_replicate, List.length_set]; omega)))))⟩ ?_
   refine AMx.ent (s' := AS.lst 66 [(8, vc (AL.Fnv.slS (List.take ((List.length o) + 1) (List.set (o ++ List.replicate (splitC k c).length []) (List.length o) c))))] []) (ent_freeze (id := 65) (T := 9) (by kernel_rfl)) ?_
   exact gT (vc (AL.Fnv.slS (List.take ((List.length o) + 1) (List.set (o ++ List.replicate (splitC k c).length []) (List.length o) c)))) (by rw [gen_end hP (by first | exact index_none (by omega) | exact gen_last hP (by omega))])
  ·
   refine AMx.skip ?_
   refine gS [(8, CE.obj (AObj.grow 9 1 Bytes [] AL.Fnv.rowS (List.set (o ++ List.replicate (splitC k c).length []) (List.length o) (List.take ((Go.Lib.indexByte c k) + 0).toNat c))))] [InR .i64 ((Go.Lib.indexByte c k) + 0), 0 ≤ (Go.Lib.indexByte c k) + 0, (Go.Lib.indexByte c k) + 0 ≤ List.length c, (0 : Int) ≤ (List.length o : Int), (List.length o : Int) < List.length (o ++ List.replicate (splitC k c).length [] : List Bytes), StoreC (List.length o) 0 [.s (st (List.take ((Go.Lib.indexByte c k) + 0).toNat c))] (AObj.grow 9 1 Bytes [] AL.Fnv.rowS (o ++ List.replicate (splitC k c).length [])) (AObj.grow 9 1 Bytes [] AL.Fnv.rowS (List.set (o ++ List.replicate (splitC k c).length []) (List.length o) (List.take ((Go.Lib.indexByte c k) + 0).toNat c)))] 66 [(0, vc (st c)), (1, vc (st [k])), (2, vc (i6 0)), (3, vc (i6 ((min (((List.count (k : UInt8) s : Nat) : Int) + 1) ((List.length s : Int) + 1)) - 1))), (9, vo 31), (10, vc (i6 (List.length o : Int))), (11, vc (i6 (Go.Lib.indexByte c k)))] [(31, AObj.grow 9 1 Bytes [] AL.Fnv.rowS (List.set (o ++ List.replicate (splitC k c).length []) (List.length o) (List.take ((Go.Lib.indexByte c k) + 0).toNat c)))] ⟨(show InR .i64 ((Go.Lib.indexByte c k) + 0) from (inR64 (by first | omega | (have hx := index_rng k c; first | omega | (simp only [List.length_cons, List.length_nil]; omega) | (have hz := gen_le hP; first | omega | (simp only [List.length_append, List.length_replicate, List.length_set]; omega)))) (by first | omega | (have hx := index_rng k c; first | omega | (simp only [List.length_cons, List.length_nil]; omega) | (have hz := gen_le hP; first | omega | (simp only [List.length_append, List.length_replicate, List.length_set]; omega)))))), (show 0 ≤ (Go.Lib.indexByte c k) + 0 from (by first | omega | (have hx := index_rng k c; first | omega | (simp only [List.length_cons, List.length_nil]; omega) | (have hz := gen_le hP; first | omega | (simp only [List.length_append, List.length_replicate, List.length_set]; omega))))), (show (Go.Lib.indexByte c k) + 0 ≤ List.length c from (by first | omega | (have hx := index_rng k c; first | omega | (simp only [List.length_cons, List.length_nil]; omega) | (have hz := gen_le hP; first | omega | (simp only [List.length_append, List.length_replicate, List.length_set]; omega))))), (show (0 : Int) ≤ (List.length o : Int) from (by first | omega | (have hx := index_rng k c; first | omega | (simp only [List.length_cons, List.length_nil]; omega) | (have hz := gen_le hP; first | omega | (simp only [List.length_append, List.length_replicate, List.length_set]; omega))))), (show (List.length o : Int) < List.length (o ++ List.replicate (splitC k c).length [] : List Bytes) from (by first | omega | (have hx := index_rng k c; first | omega | (simp only [List.length_cons, List.length_nil]; omega) | (have hz := gen_le hP; first | omega | (simp only [List.length_append, List.length_replicate, List.length_set]; omega))))), (⟨List.take ((Go.Lib.indexByte c k) + 0).toNat c, rfl, by first | omega | (have hx := index_rng k c; first | omega | (simp only [List.length_cons, List.length_nil]; omega) | (have hz := gen_le hP; first | omega | (simp only [List.length_append, List.length_replicate, List.length_set]; omega))), rfl⟩)⟩ ?_
   refine gS [] [InR .i64 ((Go.Lib.indexByte c k) + (List.length ([k] : List UInt8) : Int)), 0 ≤ (Go.Lib.indexByte c k) + (List.length ([k] : List UInt8) : Int), (Go.Lib.indexByte c k) + (List.length ([k] : List UInt8) : Int) ≤ List.length c] 66 [(0, vc (st (List.drop ((Go.Lib.indexByte c k) + (List.length ([k] : List UInt8) : Int)).toNat c))), (1, vc (st [k])), (2, vc (i6 0)), (3, vc (i6 ((min (((List.count (k : UInt8) s : Nat) : Int) + 1) ((List.length s : Int) + 1)) - 1))), (9, vo 31), (10, vc (i6 (List.length o : Int)))] [(31, AObj.grow 9 1 Bytes [] AL.Fnv.rowS (List.set (o ++ List.replicate (splitC k c).length []) (List.length o) (List.take ((Go.Lib.indexByte c k) + 0).toNat c)))] ⟨(show InR .i64 ((Go.Lib.indexByte c k) + (List.length ([k] : List UInt8) : Int)) from (inR64 (by first | omega | (have hx := index_rng k c; first | omega | (simp only [List.length_cons, List.length_nil]; omega) | (have hz := gen_le hP; first | omega | (simp only [List.length_append, List.length_replicate, List.length_set]; omega)))) (by first | omega | (have hx := index_rng k c; first | omega | (simp only [List.length_cons, List.length_nil]; omega) | (have hz := gen_le hP; first | omega | (simp only [List.length_append, List.length_replicate, List.length_set]; omega)))))), (show 0 ≤ (Go.Lib.indexByte c k) + (List.length ([k] : List UInt8) : Int) from (by first | omega | (have hx := index_rng k c; first | omega | (simp only [List.length_cons, List.length_nil]; omega) | (have hz := gen_le hP; first | omega | (simp only [List.length_append, List.length_replicate, List.length_set]; omega))))), (show (Go.Lib.indexByte c k) + (List.length ([k] : List UInt8) : Int) ≤ List.length c from (by first | omega | (have hx := index_rng k c; first | omega | (simp only [List.length_cons, List.length_nil]; omega) | (have hz := gen_le hP; first | omega | (simp only [List.length_append, List.length_replicate, List.length_set]; omega)))))⟩ ?_
   refine gR [] [InR .i64 ((List.length o : Int) + 1)] 66 [(0, vc (st (List.drop ((Go.Lib.indexByte c k) + (List.length ([k] : List UInt8) : Int)).toNat c))), (1, vc (st [k])), (2, vc (i6 0)), (3, vc (i6 ((min (((List.count (k : UInt8) s : Nat) : Int) + 1) ((List.length s : Int) + 1)) - 1))), (9, vo 31), (10, vc (i6 ((List.length o : Int) + 1)))] [(31, AObj.grow 9 1 Bytes [] AL.Fnv.rowS (List.set (o ++ List.replicate (splitC k c).length []) (List.length o) (List.take ((Go.Lib.indexByte c k) + 0).toNat c)))] (show InR .i64 ((List.length o : Int) + 1) from (inR64 (by first | omega | (have hx := index_rng k c; first | omega | (simp only [List.length_cons, List.length_nil]; omega) | (have hz := gen_le hP; first | omega | (simp only [List.length_append, List.length_replicate, List.length_set]; omega)))) (by first | omega | (have hx := index_rng k c; first | omega | (simp only [List.length_cons, List.length_nil]; omega) | (have hz := gen_le hP; first | omega | (simp only [List.length_append, List.length_replicate, List.length_set]; omega)))))) ?_
   refine AMx.blk ?_
   refine AMx.ent_inv (s' := AS.lst 66 [(0, vc (st (List.drop ((Go.Lib.indexByte c k) + (List.length ([k] : List UInt8) : Int)).toNat c))), (1, vc (st [k])), (2, vc (i6 0)), (3, vc (i6 ((min (((List.count (k : UInt8) s : Nat) : Int) + 1) ((List.length s : Int) + 1)) - 1))), (9, vo 31), (10, vc (i6 ((List.length o : Int) + 1)))] [(31, AObj.grow 9 1 Bytes [] AL.Fnv.rowS (List.set (o ++ List.replicate (splitC k c).length []) (List.length o) (List.take ((Go.Lib.indexByte c k) + 0).toNat c)))]) (ent_proj [0, 1, 2, 3, 9, 10] [31]) ?_
   refine AMx.inv ⟨_, ?_, o ++ [List.take (Go.Lib.indexByte c k).toNat c], List.drop ((Go.Lib.indexByte c k).toNat + 1) c, ?_, rfl, ?_⟩
   rotate_left
   · exact ⟨gen_inv hP (by omega), by rw [List.length_drop]; omega⟩
   · rw [show (Go.Lib.indexByte c k + (0 : Int)).toNat = (Go.Lib.indexByte c k).toNat by omega, show (Go.Lib.indexByte c k + (List.length ([k] : List UInt8) : Int)).toNat = (Go.Lib.indexByte c k).toNat + 1 by simp only [List.length_cons, List.length_nil]; omega, gen_step (by omega), List.length_append]; rfl
   · have hx := index_some (s := c) (c := k) (by omega); rw [List.length_drop]; omega
 ·
  refine AMx.exit ?_
  refine AMx.code_exit ?_
  refine AMx.inv_exit ?_
  refine AMx.blk_exit ?_
  refine gS [(4, CE.obj (AObj.grow 9 1 Bytes [] AL.Fnv.rowS (List.set (o ++ List.replicate (splitC k c).length []) (List.length o) c)))] [(0 : Int) ≤ (List.length o : Int), (List.length o : Int) < List.length (o ++ List.replicate (splitC k c).length [] : List Bytes), StoreC (List.length o) 0 [.s (st c)] (AObj.grow 9 1 Bytes [] AL.Fnv.rowS (o ++ List.replicate (splitC k c).length [])) (AObj.grow 9 1 Bytes [] AL.Fnv.rowS (List.set (o ++ List.replicate (splitC k c).length []) (List.length o) c))] 66 [(9, vo 31), (10, vc (i6 (List.length o : Int)))] [(31, AObj.grow 9 1 Bytes [] AL.Fnv.rowS (List.set (o ++ List.replicate (splitC k c).length []) (List.length o) c))] ⟨(show (0 : Int) ≤ (List.length o : Int) from (by first | omega | (have hx := index_rng k c; first | omega | (simp only [List.length_cons, List.length_nil]; omega) | (have hz := gen_le hP; first | omega | (simp only [List.length_append, List.length_replicate, List.length_set]; omega))))), (show (List.length o : Int) < List.length (o ++ List.replicate (splitC k c).length [] : List Bytes) from (by first | omega | (have hx := index_rng k c; first | omega | (simp only [List.length_cons, List.length_nil]; omega) | (have hz := gen_le hP; first | omega | (simp only [List.length_append, List.length_replicate, List.length_set]; omega))))), (⟨c, rfl, by first | omega | (have hx := index_rng k c; first | omega | (simp only [List.length_cons, List.length_nil]; omega) | (have hz := gen_le hP; first | omega | (simp only [List.length_append, List.length_replicate, List.length_set]; omega))), rfl⟩)⟩ ?_
  refine gS [] [InR .i64 ((List.length o : Int) + 1), 0 ≤ (List.length o : Int) + 1, (List.length o : Int) + 1 ≤ (List.length (List.set (o ++ List.replicate (splitC k c).length []) (List.length o) c : List Bytes) : Int)] 66 [(8, vo 65)] [(65, AObj.grow 9 1 Bytes [] AL.Fnv.rowS (List.take ((List.length o) + 1) (List.set (o ++ List.replicate (splitC k c).length []) (List.length o) c)))] ⟨(show InR .i64 ((List.length o : Int) + 1) from (inR64 (by first | omega | (have hx := index_rng k c; first | omega | (simp only [List.length_cons, List.length_nil]; omega) | (have hz := gen_le hP; first | omega | (simp only [List.length_append, List.length_replicate, List.length_set]; omega)))) (by first | omega | (have hx := index_rng k c; first | omega | (simp only [List.length_cons, List.length_nil]; omega) | (have hz := gen_le hP; first | omega | (simp only [List.length_append, List.length_replicate, List.length_set]; omega)))))), (show 0 ≤ (List.length o : Int) + 1 from (by first | omega | (have hx := index_rng k c; first | omega | (simp only [List.length_cons, List.length_nil]; omega) | (have hz := gen_le hP; first | omega | (simp only [List.length_append, List.length_replicate, List.length_set]; omega))))), (show (List.length o : Int) + 1 ≤ (List.length (List.set (o ++ List.replicate (splitC k c).length []) (List.length o) c : List Bytes) : Int) from (by first | omega | (have hx := index_rng k c; first | omega | (simp only [List.length_cons, List.length_nil]; omega) | (have hz := gen_le hP; first | omega | (simp only [List.length_append, List.length_replicate, List.length_set]; omega)))))⟩ ?_
  refine AMx.ent (s' := AS.lst 66 [(8, vc (AL.Fnv.slS (List.take ((List.length o) + 1) (List.set (o ++ List.replicate (splitC k c).length []) (List.length o) c))))] []) (ent_freeze (id := 65) (T := 9) (by kernel_rfl)) ?_
  exact gT (vc (AL.Fnv.slS (List.take ((List.length o) + 1) (List.set (o ++ List.replicate (splitC k c).length []) (List.length o) c)))) (by rw [gen_end hP (by first | exact index_none (by omega) | exact gen_last hP (by omega))])
theorem f41_body : Tryd.f41.body = some (.seq (.region 0 (rg Tryd.f41 0) false) (.seq (.region 1 (rg Tryd.f41 1) false) (.ret))) := by kernel_rfl
set_option maxRecDepth 100000 in
set_option maxHeartbeats 8000000 in
theorem Split_c (k : UInt8) (s : Bytes) (hb : s.length ≤ 100000) : Pure Tryd.prog 41 [tc (st s), tc (st [k])] (vc (AL.Fnv.slS (splitC k s))) := by
 refine Pure.of_body Tryd.func41 f41_body (by kernel_rfl) Tryd.ntmps41 (by kernel_rfl) (by kernel_rfl) ?_
 refine gS [] [] 8 [(0, vc (st s)), (1, vc (st [k]))] [] trivial ?_
 refine gS [(2, CE.call [] [] (vc (AL.Fnv.slS (AL.Sep.splitC k s))) [])] [Spec Tryd.prog 64 [tc (st s), tc (st [k]), tc (i6 0), tc (i6 (-1))] (ofH []) (vc (AL.Fnv.slS (AL.Sep.splitC k s))) (ofH [])] 8 [(4, vc (AL.Fnv.slS (AL.Sep.splitC k s)))] [] (AL.Sep.genSplit_c k s (by omega)) ?_
 exact gT (vc (AL.Fnv.slS (AL.Sep.splitC k s))) rfl
end AL.Sep
namespace AL.Secret
open Go Go.Proofs AL AL.Fnv
set_option linter.unusedVariables false
set_option linter.unusedSimpArgs false
theorem f56_body : Tryd.f56.body = some (.seq (.region 0 (rg Tryd.f56 0) false) (.seq (.region 1 (rg Tryd.f56 1) false) (.ret))) := by kernel_rfl
set_option maxRecDepth 100000 in
set_option maxHeartbeats 8000000 in
theorem within_c (n lo hi : Int) : Pure Tryd.prog 56 [tc (i6 n), tc (i6 lo), tc (i6 hi)] (vc (bo (decide (lo ≤ n) && decide (n ≤ hi)))) := by
 refine Pure.of_body Tryd.func56 f56_body (by kernel_rfl) Tryd.ntmps56 (by kernel_rfl) (by kernel_rfl) ?_
 refine gS [] [] 15 [(0, vc (i6 n)), (1, vc (i6 lo)), (2, vc (i6 hi))] [] trivial ?_
 refine gS [] [((decide (lo ≤ n)) = true) → allP [], ((decide (lo ≤ n)) = true) → allP [], ((decide (lo ≤ n)) = true) → allP [(decide (lo ≤ n)) = true, (decide (lo ≤ n)) = true], (decide (lo ≤ n)) = true → allP [(decide (lo ≤ n)) = true]] 15 [(6, vc (bo ((decide (lo ≤ n)) && (decide (n ≤ hi)))))] [] ⟨(fun _ => trivial), (fun _ => trivial), (fun hp => ⟨hp, hp⟩), (fun hp2 => (by first | exact hp2 | exact ⟨hp, hp2⟩))⟩ ?_
 exact gT (vc (bo ((decide (lo ≤ n)) && (decide (n ≤ hi))))) rfl
theorem f57_body : Tryd.f57.body = some (.seq (.region 0 (rg Tryd.f57 0) false) (.seq (.seq (.region 1 (rg Tryd.f57 1) false) (.cond (.tmp 7) (.seq (.region 2 (rg Tryd.f57 2) false) (.ret)) (.skip))) (.seq (.region 3 (rg Tryd.f57 3) false) (.ret)))) := by kernel_rfl
set_option maxRecDepth 100000 in
set_option maxHeartbeats 8000000 in
theorem keeps_c (s : Sec) (r : Rul) : Pure Tryd.prog 57 [TV.agg [.s (i6 s.1), .s (bo s.2.1), .s (i6 s.2.2.1), .s (slR s.2.2.2)], TV.agg [.s (i6 r.1), .s (bo r.2)]] (vc (i6 (keepS s r))) := by
 refine Pure.of_body Tryd.func57 f57_body (by kernel_rfl) Tryd.ntmps57 (by kernel_rfl) (by kernel_rfl) ?_
 refine gS [] [] 12 [(2, vp 2 0), (3, vp 3 0)] [(2, AObj.row [.s (i6 s.1), .s (bo s.2.1), .s (i6 s.2.2.1), .s (slR s.2.2.2)]), (3, AObj.row [.s (i6 r.1), .s (bo r.2)])] trivial ?_
 refine gQ ?_
 refine gS [] [] 12 [(2, vp 2 0), (3, vp 3 0), (7, vc (bo (decide (s.1 = 0))))] [(2, AObj.row [.s (i6 s.1), .s (bo s.2.1), .s (i6 s.2.2.1), .s (slR s.2.2.2)]), (3, AObj.row [.s (i6 r.1), .s (bo r.2)])] trivial ?_
 refine gC (s.1 = 0) (fun hc1 => ?_) fun hc1 => ?_
 ·
  refine gS [] [] 12 [(4, vc (i6 r.1))] [] trivial ?_
  exact gT (vc (i6 r.1)) (by rw [show keepS s r = r.1 from by unfold keepS; first | rw [if_pos (by assumption)] | rw [if_neg (by assumption)]])
 ·
  refine AMx.skip ?_
  refine gS [] [] 12 [(4, vc (i6 s.1))] [] trivial ?_
  exact gT (vc (i6 s.1)) (by rw [show keepS s r = s.1 from by unfold keepS; first | rw [if_pos (by assumption)] | rw [if_neg (by assumption)]])
theorem f59_body : Tryd.f59.body = some (.seq (.region 0 (rg Tryd.f59 0) false) (.seq (.region 1 (rg Tryd.f59 1) false) (.ret))) := by kernel_rfl
set_option maxRecDepth 100000 in
set_option maxHeartbeats 8000000 in
theorem number_c (x : RowV) : Pure Tryd.prog 59 [TV.agg [.s (i6 x.1), .s (bo x.2.1), .s (bo x.2.2)]] (vc (i6 x.1)) := by
 refine Pure.of_body Tryd.func59 f59_body (by kernel_rfl) Tryd.ntmps59 (by kernel_rfl) (by kernel_rfl) ?_
 refine gS [] [] 5 [(1, vp 1 0)] [(1, AObj.row [.s (i6 x.1), .s (bo x.2.1), .s (bo x.2.2)])] trivial ?_
 refine gS [] [] 5 [(2, vc (i6 x.1))] [] trivial ?_
 exact gT (vc (i6 x.1)) rfl
theorem f58_body : Tryd.f58.body = some (.seq (.region 0 (rg Tryd.f58 0) false) (.seq (.region 1 (rg Tryd.f58 1) false) (.seq (.seq (.region 2 (rg Tryd.f58 2) false) (.block 0 (.loop (.seq (.region 3 (rg Tryd.f58 3) false) (.seq (.cond (.tmp 11) (.skip) (.exit 0)) (.seq (.block 1 (.seq (.region 4 (rg Tryd.f58 4) false) (.seq (.seq (.region 5 (rg Tryd.f58 5) false) (.cond (.tmp 18) (.seq (.region 6 (rg Tryd.f58 6) false) (.ret)) (.skip))) (.region 7 (rg Tryd.f58 7) false)))) (.region 8 (rg Tryd.f58 8) false))))))) (.seq (.region 9 (rg Tryd.f58 9) false) (.ret))))) := by kernel_rfl
set_option maxRecDepth 100000 in
set_option maxHeartbeats 8000000 in
theorem rising_c (l : List RowV) : Pure Tryd.prog 58 [tc (slR l), TV.c (.fn 59 [])] (vc (bo (riseS 0 l))) := by
 refine Pure.of_body Tryd.func58 f58_body (by kernel_rfl) Tryd.ntmps58 (by kernel_rfl) (by kernel_rfl) ?_
 refine AMx.sl 0 (l := l) rfl (fun hl => ?_)
 simp only [maxLen] at hl
 refine gS [] [] 23 [(0, vc (slR l)), (1, AV.t (TV.c (.fn 59 [])))] [] trivial ?_
 refine gS [] [] 23 [(0, vc (slR l)), (1, AV.t (TV.c (.fn 59 []))), (5, vc (i6 0))] [] trivial ?_
 refine gQ ?_
 refine gS [] [] 23 [(1, AV.t (TV.c (.fn 59 []))), (5, vc (i6 0)), (8, vc (slR l)), (9, vc (i6 (List.length l : Int))), (10, vc (i6 0))] [] trivial ?_
 refine AMx.block ?_
 refine AMx.ent (s' := AS.lst 23 [(1, AV.t (TV.c (.fn 59 []))), (5, vc (i6 0)), (8, vc (slR l)), (9, vc (i6 (List.length l : Int))), (10, vc (i6 0))] []) (ent_proj [1, 5, 8, 9, 10] []) ?_
 refine AMx.loop (fun mm ss => ∃ (k : Nat) (a : Int), (k ≤ l.length ∧ riseS 0 l = riseS a (List.drop k l)) ∧ mm = l.length - k ∧ ss = AS.lst 23 [(1, AV.t (TV.c (.fn 59 []))), (5, vc (i6 a)), (8, vc (slR l)), (9, vc (i6 (List.length l : Int))), (10, vc (i6 (k : Int)))] []) ⟨0, 0, ?_, rfl, ?_⟩ ?_
 · exact ⟨by omega, rfl⟩
 · rfl
 rintro mm ss ⟨k, a, ⟨hI, hR⟩, rfl, rfl⟩
 refine gS [] [] 23 [(1, AV.t (TV.c (.fn 59 []))), (5, vc (i6 a)), (8, vc (slR l)), (9, vc (i6 (List.length l : Int))), (10, vc (i6 (k : Int))), (11, vc (bo (decide ((k : Int) < (List.length l : Int)))))] [] trivial ?_
 refine gQ ?_
 refine gC ((k : Int) < (List.length l : Int)) (fun hc1 => ?_) fun hc1 => ?_
 ·
  refine AMx.skip ?_
  refine gQ ?_
  refine AMx.block ?_
  refine gS [] [(0 : Int) ≤ (k : Int), (k : Int) < List.length l] 23 [(1, AV.t (TV.c (.fn 59 []))), (5, vc (i6 a)), (7, vp 7 0), (8, vc (slR l)), (9, vc (i6 (List.length l : Int))), (10, vc (i6 (k : Int)))] [(7, AObj.row [.s (i6 ((List.getD l k (0, false, false)).1)), .s (bo ((List.getD l k (0, false, false)).2.1)), .s (bo ((List.getD l k (0, false, false)).2.2))])] ⟨(show (0 : Int) ≤ (k : Int) from (by omega)), (show (k : Int) < List.length l from (by omega))⟩ ?_
  refine gQ ?_
  refine gS [(2, CE.call [] [] (vc (i6 ((List.getD l k (0, false, false)).1))) [])] [Spec Tryd.prog 59 [TV.agg [.s (i6 ((List.getD l k (0, false, false)).1)), .s (bo ((List.getD l k (0, false, false)).2.1)), .s (bo ((List.getD l k (0, false, false)).2.2))]] (ofH []) (vc (i6 ((List.getD l k (0, false, false)).1))) (ofH [])] 23 [(1, AV.t (TV.c (.fn 59 []))), (7, vp 7 0), (8, vc (slR l)), (9, vc (i6 (List.length l : Int))), (10, vc (i6 (k : Int))), (18, vc (bo (decide ((List.getD l k (0, false, false)).1 ≤ a))))] [(7, AObj.row [.s (i6 ((List.getD l k (0, false, false)).1)), .s (bo ((List.getD l k (0, false, false)).2.1)), .s (bo ((List.getD l k (0, false, false)).2.2))])] (number_c (List.getD l k (0, false, false))) ?_
  refine gC ((List.getD l k (0, false, false)).1 ≤ a) (fun hc2 => ?_) fun hc2 => ?_
  ·
   refine gS [] [] 23 [(4, vc (bo false))] [] trivial ?_
   exact gT (vc (bo false)) (by rw [hR, rise_go (by omega), decide_eq_false (by omega), Bool.false_and])
  ·
   refine AMx.skip ?_
   refine gR [(2, CE.call [] [] (vc (i6 ((List.getD l k (0, false, false)).1))) [])] [Spec Tryd.prog 59 [TV.agg [.s (i6 ((List.getD l k (0, false, false)).1)), .s (bo ((List.getD l k (0, false, false)).2.1)), .s (bo ((List.getD l k (0, false, false)).2.2))]] (ofH []) (vc (i6 ((List.getD l k (0, false, false)).1))) (ofH [])] 23 [(1, AV.t (TV.c (.fn 59 []))), (5, vc (i6 ((List.getD l k (0, false, false)).1))), (8, vc (slR l)), (9, vc (i6 (List.length l : Int))), (10, vc (i6 (k : Int)))] [] (number_c (List.getD l k (0, false, false))) ?_
   refine AMx.blk ?_
   refine gR [] [InR .i64 ((k : Int) + 1)] 23 [(1, AV.t (TV.c (.fn 59 []))), (5, vc (i6 ((List.getD l k (0, false, false)).1))), (8, vc (slR l)), (9, vc (i6 (List.length l : Int))), (10, vc (i6 ((k : Int) + 1)))] [] (show InR .i64 ((k : Int) + 1) from (inR64 (by omega) (by omega))) ?_
   refine AMx.ent_inv (s' := AS.lst 23 [(1, AV.t (TV.c (.fn 59 []))), (5, vc (i6 ((List.getD l k (0, false, false)).1))), (8, vc (slR l)), (9, vc (i6 (List.length l : Int))), (10, vc (i6 ((k : Int) + 1)))] []) (ent_proj [1, 5, 8, 9, 10] []) ?_
   refine AMx.inv ⟨_, ?_, k + 1, (List.getD l k (0, false, false)).1, ?_, rfl, ?_⟩
   rotate_left
   · exact ⟨by omega, by rw [hR, rise_go (by omega), decide_eq_true (by omega), Bool.true_and]⟩
   · rfl
   · omega
 ·
  refine AMx.exit ?_
  refine AMx.code_exit ?_
  refine AMx.inv_exit ?_
  refine AMx.blk_exit ?_
  refine gS [] [] 23 [(4, vc (bo true))] [] trivial ?_
  exact gT (vc (bo true)) (by rw [hR, rise_end (by omega)])
theorem f29_body : Tryd.f29.body = some (.seq (.region 0 (rg Tryd.f29 0) false) (.seq (.seq (.region 1 (rg Tryd.f29 1) false) (.cond (.tmp 22) (.seq (.region 2 (rg Tryd.f29 2) false) (.ret)) (.skip))) (.seq (.seq (.region 3 (rg Tryd.f29 3) true) (.cond (.tmp 35) (.seq (.region 4 (rg Tryd.f29 4) false) (.ret)) (.skip))) (.seq (.region 5 (rg Tryd.f29 5) false) (.seq (.seq (.region 6 (rg Tryd.f29 6) false) (.seq (.region 7 (rg Tryd.f29 7) false) (.cond (.tmp 40) (.region 8 (rg Tryd.f29 8) false) (.skip)))) (.seq (.seq (.region 9 (rg Tryd.f29 9) false) (.cond (.tmp 51) (.seq (.region 10 (rg Tryd.f29 10) false) (.ret)) (.skip))) (.seq (.region 11 (rg Tryd.f29 11) false) (.ret)))))))) := by kernel_rfl
set_option maxRecDepth 100000 in
set_option maxHeartbeats 8000000 in
theorem Check_c (s : Sec) (r : Rul) : Pure Tryd.prog 29 [TV.agg [.s (i6 s.1), .s (bo s.2.1), .s (i6 s.2.2.1), .s (slR s.2.2.2)], TV.agg [.s (i6 r.1), .s (bo r.2)]] (vc (i6 (checkS s r))) := by
 refine Pure.of_body Tryd.func29 f29_body (by kernel_rfl) Tryd.ntmps29 (by kernel_rfl) (by kernel_rfl) ?_
 refine AMx.celln 0 3 rfl rfl (fun hl => ?_)
 simp only [maxLen] at hl
 refine gS [] [] 52 [(2, vp 2 0), (3, vp 3 0)] [(2, AObj.row [.s (i6 s.1), .s (bo s.2.1), .s (i6 s.2.2.1), .s (slR s.2.2.2)]), (3, AObj.row [.s (i6 r.1), .s (bo r.2)])] trivial ?_
 refine gQ ?_
 refine gS [(2, CE.call [] [] (vc (bo (decide ((1 : Int) ≤ r.1) && decide (r.1 ≤ 6)))) []), (7, CE.call [] [] (vc (bo (decide ((0 : Int) ≤ s.1) && decide (s.1 ≤ 6)))) []), (13, CE.call [] [] (vc (bo (decide ((0 : Int) ≤ s.2.2.1) && decide (s.2.2.1 ≤ 30)))) [])] [Spec Tryd.prog 56 [tc (i6 r.1), tc (i6 1), tc (i6 6)] (ofH []) (vc (bo (decide ((1 : Int) ≤ r.1) && decide (r.1 ≤ 6)))) (ofH []), ((!(decide ((1 : Int) ≤ r.1) && decide (r.1 ≤ 6))) = false) → allP [], ((!(decide ((1 : Int) ≤ r.1) && decide (r.1 ≤ 6))) = false) → allP [(!(decide ((1 : Int) ≤ r.1) && decide (r.1 ≤ 6))) = false], ((!(decide ((1 : Int) ≤ r.1) && decide (r.1 ≤ 6))) = false) → allP [(!(decide ((1 : Int) ≤ r.1) && decide (r.1 ≤ 6))) = false, Spec Tryd.prog 56 [tc (i6 s.1), tc (i6 0), tc (i6 6)] (ofH []) (vc (bo (decide ((0 : Int) ≤ s.1) && decide (s.1 ≤ 6)))) (ofH [])], ((!(decide ((1 : Int) ≤ r.1) && decide (r.1 ≤ 6))) = false) → allP [(!(decide ((1 : Int) ≤ r.1) && decide (r.1 ≤ 6))) = false], (!(decide ((1 : Int) ≤ r.1) && decide (r.1 ≤ 6))) = false → allP [(!(decide ((1 : Int) ≤ r.1) && decide (r.1 ≤ 6))) = false], (((!(decide ((1 : Int) ≤ r.1) && decide (r.1 ≤ 6))) || (!(decide ((0 : Int) ≤ s.1) && decide (s.1 ≤ 6)))) = false) → allP [], (((!(decide ((1 : Int) ≤ r.1) && decide (r.1 ≤ 6))) || (!(decide ((0 : Int) ≤ s.1) && decide (s.1 ≤ 6)))) = false) → allP [((!(decide ((1 : Int) ≤ r.1) && decide (r.1 ≤ 6))) || (!(decide ((0 : Int) ≤ s.1) && decide (s.1 ≤ 6)))) = false], (((!(decide ((1 : Int) ≤ r.1) && decide (r.1 ≤ 6))) || (!(decide ((0 : Int) ≤ s.1) && decide (s.1 ≤ 6)))) = false) → allP [((!(decide ((1 : Int) ≤ r.1) && decide (r.1 ≤ 6))) || (!(decide ((0 : Int) ≤ s.1) && decide (s.1 ≤ 6)))) = false, Spec Tryd.prog 56 [tc (i6 s.2.2.1), tc (i6 0), tc (i6 30)] (ofH []) (vc (bo (decide ((0 : Int) ≤ s.2.2.1) && decide (s.2.2.1 ≤ 30)))) (ofH [])], (((!(decide ((1 : Int) ≤ r.1) && decide (r.1 ≤ 6))) || (!(decide ((0 : Int) ≤ s.1) && decide (s.1 ≤ 6)))) = false) → allP [((!(decide ((1 : Int) ≤ r.1) && decide (r.1 ≤ 6))) || (!(decide ((0 : Int) ≤ s.1) && decide (s.1 ≤ 6)))) = false], ((!(decide ((1 : Int) ≤ r.1) && decide (r.1 ≤ 6))) || (!(decide ((0 : Int) ≤ s.1) && decide (s.1 ≤ 6)))) = false → allP [((!(decide ((1 : Int) ≤ r.1) && decide (r.1 ≤ 6))) || (!(decide ((0 : Int) ≤ s.1) && decide (s.1 ≤ 6)))) = false]] 52 [(2, vp 2 0), (3, vp 3 0), (22, vc (bo (((!(decide ((1 : Int) ≤ r.1) && decide (r.1 ≤ 6))) || (!(decide ((0 : Int) ≤ s.1) && decide (s.1 ≤ 6)))) || (!(decide ((0 : Int) ≤ s.2.2.1) && decide (s.2.2.1 ≤ 30))))))] [(2, AObj.row [.s (i6 s.1), .s (bo s.2.1), .s (i6 s.2.2.1), .s (slR s.2.2.2)]), (3, AObj.row [.s (i6 r.1), .s (bo r.2)])] ⟨(within_c r.1 1 6), (fun _ => trivial), (fun hp => hp), (fun hp => by have hq := hp; (try simp only [decide_eq_true_eq, decide_eq_false_iff_not, Bool.and_eq_true, Bool.or_eq_true, Bool.and_eq_false_iff, Bool.or_eq_false_iff, Bool.not_eq_true', Bool.not_eq_false', Bool.not_eq_true, Bool.not_eq_false] at hq); exact ⟨hp, (within_c s.1 0 6)⟩), (fun hp => hp), (fun hp2 => (by first | exact hp2 | exact ⟨hp, hp2⟩)), (fun _ => trivial), (fun hp => hp), (fun hp => by have hq := hp; (try simp only [decide_eq_true_eq, decide_eq_false_iff_not, Bool.and_eq_true, Bool.or_eq_true, Bool.and_eq_false_iff, Bool.or_eq_false_iff, Bool.not_eq_true', Bool.not_eq_false', Bool.not_eq_true, Bool.not_eq_false] at hq); exact ⟨hp, (within_c s.2.2.1 0 30)⟩), (fun hp => hp), (fun hp2 => (by first | exact hp2 | exact ⟨hp, hp2⟩))⟩ ?_
 refine gB ((((!(decide ((1 : Int) ≤ r.1) && decide (r.1 ≤ 6))) || (!(decide ((0 : Int) ≤ s.1) && decide (s.1 ≤ 6)))) || (!(decide ((0 : Int) ≤ s.2.2.1) && decide (s.2.2.1 ≤ 30))))) (fun hc1 => ?_) fun hc1 => ?_
 ·
  try simp only [xT, xF, xA, xB, xO, xP, xN, xM] at hc1
  refine gS [] [] 52 [(4, vc (i6 2))] [] trivial ?_
  exact gT (vc (i6 2)) (by rw [show checkS s r = 2 from check_no (fun h => by have q := h.1; unfold RangeS at q; omega)])
 ·
  try simp only [xT, xF, xA, xB, xO, xP, xN, xM] at hc1
  refine AMx.skip ?_
  refine gQ ?_
  refine gY [(5, CE.call [] [] (vc (i6 (keepS s r))) []), (10, CE.call [] [] (vc (bo (riseS 0 s.2.2.2))) [])] [(1, [2]), (3, [2]), (4, [3]), (9, [2])] [Spec Tryd.prog 57 [TV.agg [.s (i6 s.1), .s (bo s.2.1), .s (i6 s.2.2.1), .s (slR s.2.2.2)], TV.agg [.s (i6 r.1), .s (bo r.2)]] (ofH []) (vc (i6 (keepS s r))) (ofH []), ((decide (keepS s r < (List.length s.2.2.2 : Int))) = false) → allP [], ((decide (keepS s r < (List.length s.2.2.2 : Int))) = false) → allP [(decide (keepS s r < (List.length s.2.2.2 : Int))) = false], ((decide (keepS s r < (List.length s.2.2.2 : Int))) = false) → allP [(decide (keepS s r < (List.length s.2.2.2 : Int))) = false, Spec Tryd.prog 58 [tc (slR s.2.2.2), TV.c (.fn 59 [])] (ofH []) (vc (bo (riseS 0 s.2.2.2))) (ofH [])], ((decide (keepS s r < (List.length s.2.2.2 : Int))) = false) → allP [(decide (keepS s r < (List.length s.2.2.2 : Int))) = false], (decide (keepS s r < (List.length s.2.2.2 : Int))) = false → allP [(decide (keepS s r < (List.length s.2.2.2 : Int))) = false]] 52 [(2, vp 2 0), (35, vc (bo ((decide (keepS s r < (List.length s.2.2.2 : Int))) || (!(riseS 0 s.2.2.2)))))] [(2, AObj.row [.s (i6 s.1), .s (bo s.2.1), .s (i6 s.2.2.1), .s (slR s.2.2.2)])] mixed ⟨(keeps_c s r), (fun _ => trivial), (fun hp => hp), (fun hp => by have hq := hp; (try simp only [decide_eq_true_eq, decide_eq_false_iff_not, Bool.and_eq_true, Bool.or_eq_true, Bool.and_eq_false_iff, Bool.or_eq_false_iff, Bool.not_eq_true', Bool.not_eq_false', Bool.not_eq_true, Bool.not_eq_false] at hq); exact ⟨hp, (rising_c s.2.2.2)⟩), (fun hp => hp), (fun hp2 => (by first | exact hp2 | exact ⟨hp, hp2⟩))⟩ ?_
  refine gB (((decide (keepS s r < (List.length s.2.2.2 : Int))) || (!(riseS 0 s.2.2.2)))) (fun hc2 => ?_) fun hc2 => ?_
  ·
   try simp only [xT, xF, xO, xP, xN, xM] at hc2
   refine gS [] [] 52 [(4, vc (i6 2))] [] trivial ?_
   exact gT (vc (i6 2)) (by rw [show checkS s r = 2 from check_no (fun h => by have q1 := h.2.1; have q2 := h.2.2.1; rcases hc2 with q | q; omega; rw [q2] at q; cases q)])
  ·
   try simp only [xT, xF, xO, xP, xN, xM] at hc2
   refine AMx.skip ?_
   refine gS [] [] 52 [(2, vp 2 0), (5, vc (i6 0))] [(2, AObj.row [.s (i6 s.1), .s (bo s.2.1), .s (i6 s.2.2.1), .s (slR s.2.2.2)])] trivial ?_
   refine gQ ?_
   refine gS [] [] 52 [(2, vp 2 0), (5, vc (i6 0)), (6, vc (i6 (List.length s.2.2.2 : Int)))] [(2, AObj.row [.s (i6 s.1), .s (bo s.2.1), .s (i6 s.2.2.1), .s (slR s.2.2.2)])] trivial ?_
   refine gS [] [] 52 [(2, vp 2 0), (5, vc (i6 0)), (6, vc (i6 (List.length s.2.2.2 : Int))), (40, vc (bo (decide (0 < (List.length s.2.2.2 : Int)))))] [(2, AObj.row [.s (i6 s.1), .s (bo s.2.1), .s (i6 s.2.2.1), .s (slR s.2.2.2)])] trivial ?_
   refine gC (0 < (List.length s.2.2.2 : Int)) (fun hc3 => ?_) fun hc3 => ?_
   ·
    refine gR [] [InR .i64 ((List.length s.2.2.2 : Int) - 1), (0 : Int) ≤ (List.length s.2.2.2 : Int) - 1, (List.length s.2.2.2 : Int) - 1 < List.length s.2.2.2] 52 [(2, vp 2 0), (5, vc (i6 ((List.getD s.2.2.2 ((List.length s.2.2.2 : Int) - 1).toNat (0, false, false)).1)))] [(2, AObj.row [.s (i6 s.1), .s (bo s.2.1), .s (i6 s.2.2.1), .s (slR s.2.2.2)])] ⟨(show InR .i64 ((List.length s.2.2.2 : Int) - 1) from (inR64 (by omega) (by omega))), (show (0 : Int) ≤ (List.length s.2.2.2 : Int) - 1 from (by omega)), (show (List.length s.2.2.2 : Int) - 1 < List.length s.2.2.2 from (by omega))⟩ ?_
    refine gQ ?_
    refine gS [] [] 52 [(51, vc (bo (!decide ((List.getD s.2.2.2 ((List.length s.2.2.2 : Int) - 1).toNat (0, false, false)).1 = s.2.2.1))))] [] trivial ?_
    refine gN ((List.getD s.2.2.2 ((List.length s.2.2.2 : Int) - 1).toNat (0, false, false)).1 = s.2.2.1) (fun hc4 => ?_) fun hc4 => ?_
    ·
     refine gS [] [] 52 [(4, vc (i6 2))] [] trivial ?_
     exact gT (vc (i6 2)) (by rw [show checkS s r = 2 from check_no (fun h => by have q := h.2.2.2; first | (rw [new_at] at q; omega) | (have e : s.2.2.2 = [] := List.eq_nil_of_length_eq_zero (by omega); rw [e, new_nil] at q; omega))])
    ·
     refine AMx.skip ?_
     refine gS [] [] 52 [(4, vc (i6 0))] [] trivial ?_
     exact gT (vc (i6 0)) (by rw [show checkS s r = 0 from check_yes ⟨(by unfold RangeS; omega), by omega, by simp_all, by first | (rw [new_at]; omega) | (have e : s.2.2.2 = [] := List.eq_nil_of_length_eq_zero (by omega); rw [e, new_nil]; omega)⟩])
   ·
    refine AMx.skip ?_
    refine gQ ?_
    refine gS [] [] 52 [(51, vc (bo (!decide ((0 : Int) = s.2.2.1))))] [] trivial ?_
    refine gN ((0 : Int) = s.2.2.1) (fun hc5 => ?_) fun hc5 => ?_
    ·
     refine gS [] [] 52 [(4, vc (i6 2))] [] trivial ?_
     exact gT (vc (i6 2)) (by rw [show checkS s r = 2 from check_no (fun h => by have q := h.2.2.2; first | (rw [new_at] at q; omega) | (have e : s.2.2.2 = [] := List.eq_nil_of_length_eq_zero (by omega); rw [e, new_nil] at q; omega))])
    ·
     refine AMx.skip ?_
     refine gS [] [] 52 [(4, vc (i6 0))] [] trivial ?_
     exact gT (vc (i6 0)) (by rw [show checkS s r = 0 from check_yes ⟨(by unfold RangeS; omega), by omega, by simp_all, by first | (rw [new_at]; omega) | (have e : s.2.2.2 = [] := List.eq_nil_of_length_eq_zero (by omega); rw [e, new_nil]; omega)⟩])
end AL.Secret
namespace AL.Ask
open Go AL
open AL.Sep (splitC joinC)
open AL.Policy (RuleV textP parseP checkP)
open AL.Rows (namedS)
set_option linter.unusedVariables false
set_option linter.unusedSimpArgs false
theorem check_22 {a : AskV} (h : wordS a.op = []) : checkA a = 22 := if_pos h
theorem check_2 {a : AskV} (h : ¬ wordS a.op = []) (h2 : fieldsC a (kindS a.op) = 0) (h3 : ¬ bareF a (kindS a.op) = askd) : checkA a = 2 := by
  unfold checkA
  rw [if_neg h, if_neg (fun q => q h2), if_pos h3]
theorem check_0 {a : AskV} (h : ¬ wordS a.op = []) (h2 : fieldsC a (kindS a.op) = 0) (h3 : bareF a (kindS a.op) = askd) (h4 : ¬ (400 : Int) < (List.length (lineA a) : Int)) : checkA a = 0 := by
  unfold checkA
  rw [if_neg h, if_neg (fun q => q h2), if_neg (fun q => q h3), if_neg (by omega)]
theorem read_c {a : AskV} {s : Bytes} (h : ¬ s = [45]) : readA a 99 s = ({ a with cas := scanN s }, fineS (decide (s = [45]) || decide (0 ≤ scanN s))) := by
  show (if s = [45] then _ else _) = _
  rw [if_neg h, decide_eq_false h]; rfl
end AL.Ask
namespace AL.Ask
open Go AL
open AL.Sep (splitC joinC)
open AL.Policy (RuleV textP parseP checkP)
set_option linter.unusedVariables false
set_option linter.unusedSimpArgs false
def aw1 : AskV := ⟨10, [114, 111, 111, 116], [116, 101, 97, 109, 47, 97, 112, 112], [], 0, -1, false, [], [97, 98], [], []⟩
def aw2 : AskV := ⟨11, [114, 111, 111, 116], [97], [], 0, 0, false, [1, 2], [], [], []⟩
end AL.Ask
namespace AL.Ask
open Go AL
open AL.Sep (splitC joinC)
set_option linter.unusedVariables false
set_option linter.unusedSimpArgs false
theorem wrap_dg {n : Int} (h0 : 0 ≤ n) (h1 : n < 10) : IntKind.wrap .u8 (48 + n) = ((dg n).toNat : Int) := by
  rw [wrap_u8 (by omega) (by omega)]
  unfold dg
  rw [UInt8.toNat_ofNat']
  omega
theorem one_dr {n : Int} (h0 : 0 ≤ n) (h1 : n < 10) : flat 1 rowU8 [dg n] = [AC.s (u8 (IntKind.wrap .u8 (48 + n)))] := by
  rw [wrap_dg h0 h1]; rfl
end AL.Ask
namespace AL.Reply
open Go Go.Proofs AL
set_option linter.unusedVariables false
set_option linter.unusedSimpArgs false
end AL.Reply
namespace AL.Ask
open Go Go.Proofs AL
set_option linter.unusedVariables false
set_option linter.unusedSimpArgs false
theorem f84_body : Tryd.f84.body = some (.seq (.region 0 (rg Tryd.f84 0) false) (.seq (.block 0 (.seq (.region 1 (rg Tryd.f84 1) false) (.cond (.tmp 3) (.seq (.region 2 (rg Tryd.f84 2) false) (.ret)) (.seq (.region 3 (rg Tryd.f84 3) false) (.cond (.tmp 13) (.seq (.region 4 (rg Tryd.f84 4) false) (.ret)) (.skip)))))) (.seq (.region 5 (rg Tryd.f84 5) false) (.ret)))) := by kernel_rfl
set_option maxRecDepth 100000 in
set_option maxHeartbeats 8000000 in
theorem digit_c (b : UInt8) : Pure Tryd.prog 84 [tc (u8 (b.toNat : Int))] (vc (i6 (digV b))) := by
 refine Pure.of_body Tryd.func84 f84_body (by kernel_rfl) Tryd.ntmps84 (by kernel_rfl) (by kernel_rfl) ?_
 refine gS [] [] 24 [(0, vc (u8 (b.toNat : Int)))] [] trivial ?_
 refine gQ ?_
 refine AMx.block ?_
 refine gS [] [((decide (48 ≤ (b.toNat : Int))) = true) → allP [], ((decide (48 ≤ (b.toNat : Int))) = true) → allP [(decide (48 ≤ (b.toNat : Int))) = true], (decide (48 ≤ (b.toNat : Int))) = true → allP [(decide (48 ≤ (b.toNat : Int))) = true]] 24 [(0, vc (u8 (b.toNat : Int))), (3, vc (bo ((decide (48 ≤ (b.toNat : Int))) && (decide ((b.toNat : Int) ≤ 57)))))] [] ⟨(fun _ => trivial), (fun hp => hp), (fun hp2 => (by first | exact hp2 | exact ⟨hp, hp2⟩))⟩ ?_
 refine gB (((decide (48 ≤ (b.toNat : Int))) && (decide ((b.toNat : Int) ≤ 57)))) (fun hc1 => ?_) fun hc1 => ?_
 ·
  try simp only [xT, xF, xA, xB] at hc1
  refine gS [] [] 24 [(2, vc (i6 (IntKind.wrap .u8 ((b.toNat : Int) - 48))))] [] trivial ?_
  rw [show IntKind.wrap .u8 ((b.toNat : Int) - 48) = (b.toNat : Int) - 48 from wrap_u8 (by omega) (by have := UInt8.toNat_lt b; omega)]
  exact gT (vc (i6 ((b.toNat : Int) - 48))) (by rw [show digV b = (b.toNat : Int) - 48 from dig_1 (by omega)])
 ·
  try simp only [xT, xF, xA, xB] at hc1
  refine gS [] [((decide (97 ≤ (b.toNat : Int))) = true) → allP [], ((decide (97 ≤ (b.toNat : Int))) = true) → allP [(decide (97 ≤ (b.toNat : Int))) = true], (decide (97 ≤ (b.toNat : Int))) = true → allP [(decide (97 ≤ (b.toNat : Int))) = true]] 24 [(0, vc (u8 (b.toNat : Int))), (13, vc (bo ((decide (97 ≤ (b.toNat : Int))) && (decide ((b.toNat : Int) ≤ 102)))))] [] ⟨(fun _ => trivial), (fun hp => hp), (fun hp2 => (by first | exact hp2 | exact ⟨hp, hp2⟩))⟩ ?_
  refine gB (((decide (97 ≤ (b.toNat : Int))) && (decide ((b.toNat : Int) ≤ 102)))) (fun hc2 => ?_) fun hc2 => ?_
  ·
   try simp only [xT, xF, xA, xB] at hc2
   refine gS [] [InR .i64 ((IntKind.wrap .u8 ((b.toNat : Int) - 97)) + 10)] 24 [(2, vc (i6 ((IntKind.wrap .u8 ((b.toNat : Int) - 97)) + 10)))] [] (show InR .i64 ((IntKind.wrap .u8 ((b.toNat : Int) - 97)) + 10) from (inR64 (by first | omega | (have hb := UInt8.toNat_lt b; first | omega | (have hw := wrap_u8 (n := (b.toNat : Int) - 97) (by omega) (by omega); omega))) (by first | omega | (have hb := UInt8.toNat_lt b; first | omega | (have hw := wrap_u8 (n := (b.toNat : Int) - 97) (by omega) (by omega); omega))))) ?_
   rw [show IntKind.wrap .u8 ((b.toNat : Int) - 97) = (b.toNat : Int) - 97 from wrap_u8 (by omega) (by have := UInt8.toNat_lt b; omega)]
   exact gT (vc (i6 (((b.toNat : Int) - 97) + 10))) (by rw [show digV b = ((b.toNat : Int) - 97) + 10 from dig_2 (by omega)])
  ·
   try simp only [xT, xF, xA, xB] at hc2
   refine AMx.skip ?_
   refine AMx.blk ?_
   refine gS [] [] 24 [(2, vc (i6 (-1)))] [] trivial ?_
   exact gT (vc (i6 (-1))) (by rw [show digV b = (-1) from dig_3 (by omega)])
theorem f52_body : Tryd.f52.body = some (.seq (.region 0 (rg Tryd.f52 0) false) (.seq (.region 1 (rg Tryd.f52 1) false) (.seq (.seq (.region 2 (rg Tryd.f52 2) false) (.block 0 (.loop (.seq (.region 3 (rg Tryd.f52 3) false) (.seq (.cond (.tmp 14) (.skip) (.exit 0)) (.seq (.block 1 (.seq (.region 4 (rg Tryd.f52 4) false) (.region 5 (rg Tryd.f52 5) true))) (.region 6 (rg Tryd.f52 6) false))))))) (.seq (.region 7 (rg Tryd.f52 7) false) (.ret))))) := by kernel_rfl
set_option maxRecDepth 100000 in
set_option maxHeartbeats 8000000 in
theorem Hex_c (s : Bytes) (hb : s.length ≤ 100000) : Pure Tryd.prog 52 [tc (st s)] (vc (st (hexS s))) := by
 refine Pure.of_body Tryd.func52 f52_body (by kernel_rfl) Tryd.ntmps52 (by kernel_rfl) (by kernel_rfl) ?_
 refine gS [] [] 29 [(0, vc (st s))] [] trivial ?_
 refine gS [(3, CE.obj (AObj.grow 5 1 UInt8 0 rowU8 (List.replicate 0 0)))] [InR .i64 (2 * (List.length s : Int)), 0 ≤ (0 : Int), (0 : Int) ≤ 2 * (List.length s : Int), (1 : Int) * (2 * (List.length s : Int)) ≤ 281474976710656, 2 * (List.length s : Int) ≤ 9223372036854775807, MakeC 0 [.s (u8 0)] (AObj.grow 5 1 UInt8 0 rowU8 (List.replicate 0 0))] 29 [(0, vc (st s)), (3, vo 9)] [(9, AObj.grow 5 1 UInt8 0 rowU8 (List.replicate 0 0))] ⟨(show InR .i64 (2 * (List.length s : Int)) from (inR64 (by first | omega | (have hq := UInt8.toNat_lt (List.getD s k 0); have hr := hex_idx (List.getD s k 0).toNat hq; first | omega | ((try simp only [List.length_append, List.length_cons, List.length_nil, List.length_replicate, List.length_map, List.length_take, List.length_drop, hex_len]); omega))) (by first | omega | (have hq := UInt8.toNat_lt (List.getD s k 0); have hr := hex_idx (List.getD s k 0).toNat hq; first | omega | ((try simp only [List.length_append, List.length_cons, List.length_nil, List.length_replicate, List.length_map, List.length_take, List.length_drop, hex_len]); omega))))), (show 0 ≤ (0 : Int) from (by first | omega | (have hq := UInt8.toNat_lt (List.getD s k 0); have hr := hex_idx (List.getD s k 0).toNat hq; first | omega | ((try simp only [List.length_append, List.length_cons, List.length_nil, List.length_replicate, List.length_map, List.length_take, List.length_drop, hex_len]); omega)))), (show (0 : Int) ≤ 2 * (List.length s : Int) from (by first | omega | (have hq := UInt8.toNat_lt (List.getD s k 0); have hr := hex_idx (List.getD s k 0).toNat hq; first | omega | ((try simp only [List.length_append, List.length_cons, List.length_nil, List.length_replicate, List.length_map, List.length_take, List.length_drop, hex_len]); omega)))), (show (1 : Int) * (2 * (List.length s : Int)) ≤ 281474976710656 from (by first | omega | (have hq := UInt8.toNat_lt (List.getD s k 0); have hr := hex_idx (List.getD s k 0).toNat hq; first | omega | ((try simp only [List.length_append, List.length_cons, List.length_nil, List.length_replicate, List.length_map, List.length_take, List.length_drop, hex_len]); omega)))), (show 2 * (List.length s : Int) ≤ 9223372036854775807 from (by first | omega | (have hq := UInt8.toNat_lt (List.getD s k 0); have hr := hex_idx (List.getD s k 0).toNat hq; first | omega | ((try simp only [List.length_append, List.length_cons, List.length_nil, List.length_replicate, List.length_map, List.length_take, List.length_drop, hex_len]); omega)))), (⟨_, rfl, rfl⟩)⟩ ?_
 refine gQ ?_
 refine gS [] [] 29 [(3, vo 9), (11, vc (SC.sl 1 UInt8 0 rowU8 s)), (12, vc (i6 (List.length s : Int))), (13, vc (i6 0))] [(9, AObj.grow 5 1 UInt8 0 rowU8 (List.replicate 0 0))] trivial ?_
 refine AMx.block ?_
 refine AMx.ent (s' := AS.lst 29 [(3, vo 9), (11, vc (SC.sl 1 UInt8 0 rowU8 s)), (12, vc (i6 (List.length s : Int))), (13, vc (i6 0))] [(9, AObj.grow 5 1 UInt8 0 rowU8 (List.replicate 0 0))]) (ent_proj [3, 11, 12, 13] [9]) ?_
 refine AMx.loop (fun mm ss => ∃ (k : Nat), (k ≤ s.length) ∧ mm = s.length - k ∧ ss = AS.lst 29 [(3, vo 9), (11, vc (SC.sl 1 UInt8 0 rowU8 s)), (12, vc (i6 (List.length s : Int))), (13, vc (i6 (k : Int)))] [(9, AObj.grow 5 1 UInt8 0 rowU8 (hexS (List.take k s)))]) ⟨0, ?_, rfl, ?_⟩ ?_
 · omega
 · rfl
 rintro mm ss ⟨k, hI, rfl, rfl⟩
 refine gS [] [] 29 [(3, vo 9), (11, vc (SC.sl 1 UInt8 0 rowU8 s)), (12, vc (i6 (List.length s : Int))), (13, vc (i6 (k : Int))), (14, vc (bo (decide ((k : Int) < (List.length s : Int)))))] [(9, AObj.grow 5 1 UInt8 0 rowU8 (hexS (List.take k s)))] trivial ?_
 refine gQ ?_
 refine gC ((k : Int) < (List.length s : Int)) (fun hc1 => ?_) fun hc1 => ?_
 ·
  refine AMx.skip ?_
  refine gQ ?_
  refine AMx.block ?_
  refine gS [] [(0 : Int) ≤ (k : Int), (k : Int) < List.length s] 29 [(3, vo 9), (5, vc (u8 ((List.getD s k 0).toNat : Int))), (11, vc (SC.sl 1 UInt8 0 rowU8 s)), (12, vc (i6 (List.length s : Int))), (13, vc (i6 (k : Int)))] [(9, AObj.grow 5 1 UInt8 0 rowU8 (hexS (List.take k s)))] ⟨(show (0 : Int) ≤ (k : Int) from (by first | omega | (have hq := UInt8.toNat_lt (List.getD s k 0); have hr := hex_idx (List.getD s k 0).toNat hq; first | omega | ((try simp only [List.length_append, List.length_cons, List.length_nil, List.length_replicate, List.length_map, List.length_take, List.length_drop, hex_len]); omega)))), (show (k : Int) < List.length s from (by first | omega | (have hq := UInt8.toNat_lt (List.getD s k 0); have hr := hex_idx (List.getD s k 0).toNat hq; first | omega | ((try simp only [List.length_append, List.length_cons, List.length_nil, List.length_replicate, List.length_map, List.length_take, List.length_drop, hex_len]); omega))))⟩ ?_
  refine gX [(7, CE.obj (AObj.grow 5 1 UInt8 0 rowU8 (hexB (List.getD s k 0)))), (8, CE.obj (AObj.grow 5 1 UInt8 0 rowU8 ((hexS (List.take k s)) ++ (hexB (List.getD s k 0)))))] [(8, [9, 24])] [(0 : Int) ≤ 4, (0 : Int) ≤ Int.fdiv ((List.getD s k 0).toNat : Int) (2 ^ (min (4 : Int).toNat (IntKind.bits .u8))), Int.fdiv ((List.getD s k 0).toNat : Int) (2 ^ (min (4 : Int).toNat (IntKind.bits .u8))) < List.length ([48, 49, 50, 51, 52, 53, 54, 55, 56, 57, 97, 98, 99, 100, 101, 102] : List UInt8), (0 : Int) ≤ IntKind.wrap .u8 ((BitVec.ofInt 8 ((List.getD s k 0).toNat : Int) &&& BitVec.ofInt 8 15).toNat), IntKind.wrap .u8 ((BitVec.ofInt 8 ((List.getD s k 0).toNat : Int) &&& BitVec.ofInt 8 15).toNat) < List.length ([48, 49, 50, 51, 52, 53, 54, 55, 56, 57, 97, 98, 99, 100, 101, 102] : List UInt8), flat 1 rowU8 (hexB (List.getD s k 0)) = [.s (u8 ((List.getD ([48, 49, 50, 51, 52, 53, 54, 55, 56, 57, 97, 98, 99, 100, 101, 102] : List UInt8) (Int.fdiv ((List.getD s k 0).toNat : Int) (2 ^ (min (4 : Int).toNat (IntKind.bits .u8)))).toNat 0).toNat : Int)), .s (u8 ((List.getD ([48, 49, 50, 51, 52, 53, 54, 55, 56, 57, 97, 98, 99, 100, 101, 102] : List UInt8) (IntKind.wrap .u8 ((BitVec.ofInt 8 ((List.getD s k 0).toNat : Int) &&& BitVec.ofInt 8 15).toNat)).toNat 0).toNat : Int))], List.length (hexB (List.getD s k 0) : List UInt8) = 2, AppC (flat 1 rowU8 (hexB (List.getD s k 0))) (List.length (hexB (List.getD s k 0) : List UInt8)) 1 (AObj.grow 5 1 UInt8 0 rowU8 (hexS (List.take k s))) (AObj.grow 5 1 UInt8 0 rowU8 ((hexS (List.take k s)) ++ (hexB (List.getD s k 0))))] 29 [(3, vo 25), (11, vc (SC.sl 1 UInt8 0 rowU8 s)), (12, vc (i6 (List.length s : Int))), (13, vc (i6 (k : Int)))] [(25, AObj.grow 5 1 UInt8 0 rowU8 ((hexS (List.take k s)) ++ (hexB (List.getD s k 0))))] mixed ⟨(show (0 : Int) ≤ 4 from (by first | omega | (have hq := UInt8.toNat_lt (List.getD s k 0); have hr := hex_idx (List.getD s k 0).toNat hq; first | omega | ((try simp only [List.length_append, List.length_cons, List.length_nil, List.length_replicate, List.length_map, List.length_take, List.length_drop, hex_len]); omega)))), (show (0 : Int) ≤ Int.fdiv ((List.getD s k 0).toNat : Int) (2 ^ (min (4 : Int).toNat (IntKind.bits .u8))) from (by first | omega | (have hq := UInt8.toNat_lt (List.getD s k 0); have hr := hex_idx (List.getD s k 0).toNat hq; first | omega | ((try simp only [List.length_append, List.length_cons, List.length_nil, List.length_replicate, List.length_map, List.length_take, List.length_drop, hex_len]); omega)))), (show Int.fdiv ((List.getD s k 0).toNat : Int) (2 ^ (min (4 : Int).toNat (IntKind.bits .u8))) < List.length ([48, 49, 50, 51, 52, 53, 54, 55, 56, 57, 97, 98, 99, 100, 101, 102] : List UInt8) from (by first | omega | (have hq := UInt8.toNat_lt (List.getD s k 0); have hr := hex_idx (List.getD s k 0).toNat hq; first | omega | ((try simp only [List.length_append, List.length_cons, List.length_nil, List.length_replicate, List.length_map, List.length_take, List.length_drop, hex_len]); omega)))), (show (0 : Int) ≤ IntKind.wrap .u8 ((BitVec.ofInt 8 ((List.getD s k 0).toNat : Int) &&& BitVec.ofInt 8 15).toNat) from (by first | omega | (have hq := UInt8.toNat_lt (List.getD s k 0); have hr := hex_idx (List.getD s k 0).toNat hq; first | omega | ((try simp only [List.length_append, List.length_cons, List.length_nil, List.length_replicate, List.length_map, List.length_take, List.length_drop, hex_len]); omega)))), (show IntKind.wrap .u8 ((BitVec.ofInt 8 ((List.getD s k 0).toNat : Int) &&& BitVec.ofInt 8 15).toNat) < List.length ([48, 49, 50, 51, 52, 53, 54, 55, 56, 57, 97, 98, 99, 100, 101, 102] : List UInt8) from (by first | omega | (have hq := UInt8.toNat_lt (List.getD s k 0); have hr := hex_idx (List.getD s k 0).toNat hq; first | omega | ((try simp only [List.length_append, List.length_cons, List.length_nil, List.length_replicate, List.length_map, List.length_take, List.length_drop, hex_len]); omega)))), (hex_two (List.getD s k 0)), rfl, (⟨_, rfl, rfl, rfl, by simp only [hexB, List.length_append, List.length_cons, List.length_nil, List.length_replicate, List.length_map, List.length_take, List.length_drop, hex_len]; omega, by simp only [hexB, maxLen, List.length_append, List.length_cons, List.length_nil, List.length_replicate, List.length_map, List.length_take, List.length_drop, hex_len]; omega⟩)⟩ ?_
  refine AMx.blk ?_
  refine gR [] [InR .i64 ((k : Int) + 1)] 29 [(3, vo 25), (11, vc (SC.sl 1 UInt8 0 rowU8 s)), (12, vc (i6 (List.length s : Int))), (13, vc (i6 ((k : Int) + 1)))] [(25, AObj.grow 5 1 UInt8 0 rowU8 ((hexS (List.take k s)) ++ (hexB (List.getD s k 0))))] (show InR .i64 ((k : Int) + 1) from (inR64 (by first | omega | (have hq := UInt8.toNat_lt (List.getD s k 0); have hr := hex_idx (List.getD s k 0).toNat hq; first | omega | ((try simp only [List.length_append, List.length_cons, List.length_nil, List.length_replicate, List.length_map, List.length_take, List.length_drop, hex_len]); omega))) (by first | omega | (have hq := UInt8.toNat_lt (List.getD s k 0); have hr := hex_idx (List.getD s k 0).toNat hq; first | omega | ((try simp only [List.length_append, List.length_cons, List.length_nil, List.length_replicate, List.length_map, List.length_take, List.length_drop, hex_len]); omega))))) ?_
  refine AMx.ent_inv (s' := AS.lst 29 [(3, vo 9), (11, vc (SC.sl 1 UInt8 0 rowU8 s)), (12, vc (i6 (List.length s : Int))), (13, vc (i6 ((k : Int) + 1)))] [(9, AObj.grow 5 1 UInt8 0 rowU8 ((hexS (List.take k s)) ++ (hexB (List.getD s k 0))))]) (ent_swap 25 9 (by kernel_rfl) (by kernel_rfl)) ?_
  refine AMx.ent_inv (s' := AS.lst 29 [(3, vo 9), (11, vc (SC.sl 1 UInt8 0 rowU8 s)), (12, vc (i6 (List.length s : Int))), (13, vc (i6 ((k : Int) + 1)))] [(9, AObj.grow 5 1 UInt8 0 rowU8 ((hexS (List.take k s)) ++ (hexB (List.getD s k 0))))]) (ent_proj [3, 11, 12, 13] [9]) ?_
  refine AMx.inv ⟨_, ?_, k + 1, ?_, rfl, ?_⟩
  rotate_left
  · omega
  · rw [← hex_step s k (by omega)]; rfl
  · omega
 ·
  refine AMx.exit ?_
  refine AMx.code_exit ?_
  refine AMx.inv_exit ?_
  refine AMx.blk_exit ?_
  rw [show List.take k s = s from List.take_of_length_le (by omega)]
  refine gS [(1, CE.str (hexS s))] [flat 1 rowU8 (hexS s) = flat 1 rowU8 (hexS s), List.length (hexS s : List UInt8) = List.length (hexS s : List UInt8), (List.length (hexS s : List UInt8) : Int) ≤ 140737488355328] 29 [(2, vc (st (hexS s)))] [] ⟨rfl, rfl, (show (List.length (hexS s : List UInt8) : Int) ≤ 140737488355328 from (by first | omega | (have hq := UInt8.toNat_lt (List.getD s k 0); have hr := hex_idx (List.getD s k 0).toNat hq; first | omega | ((try simp only [List.length_append, List.length_cons, List.length_nil, List.length_replicate, List.length_map, List.length_take, List.length_drop, hex_len]); omega))))⟩ ?_
  exact gT (vc (st (hexS s))) rfl
theorem f75_body : Tryd.f75.body = some (.seq (.region 0 (rg Tryd.f75 0) false) (.seq (.seq (.region 1 (rg Tryd.f75 1) false) (.cond (.tmp 11) (.seq (.region 2 (rg Tryd.f75 2) false) (.ret)) (.skip))) (.seq (.region 3 (rg Tryd.f75 3) false) (.seq (.seq (.region 4 (rg Tryd.f75 4) false) (.block 0 (.loop (.seq (.seq (.region 5 (rg Tryd.f75 5) false) (.cond (.tmp 19) (.skip) (.exit 0))) (.seq (.block 1 (.seq (.region 7 (rg Tryd.f75 7) true) (.seq (.seq (.region 8 (rg Tryd.f75 8) false) (.cond (.tmp 36) (.seq (.region 9 (rg Tryd.f75 9) false) (.ret)) (.skip))) (.region 10 (rg Tryd.f75 10) false)))) (.region 6 (rg Tryd.f75 6) false)))))) (.seq (.region 11 (rg Tryd.f75 11) false) (.ret)))))) := by kernel_rfl
set_option maxRecDepth 100000 in
set_option maxHeartbeats 8000000 in
theorem Unhex_c (s : Bytes) (hb : s.length ≤ 100000) : Pure Tryd.prog 75 [tc (st s)] (AV.tup [tc (st ((unhexS s).1)), tc (bo ((unhexS s).2))]) := by
 refine Pure.of_body Tryd.func75 f75_body (by kernel_rfl) Tryd.ntmps75 (by kernel_rfl) (by kernel_rfl) ?_
 have h2 := tmod_2 s.length
 have h3 := tdiv_2 s.length
 refine gS [] [] 47 [(0, vc (st s))] [] trivial ?_
 refine gQ ?_
 refine gS [] [(2 : Int) ≠ 0] 47 [(0, vc (st s)), (11, vc (bo (!decide (Int.tmod (List.length s : Int) 2 = 0))))] [] (show (2 : Int) ≠ 0 from (by first | omega | (have hd1 := dig_rng (List.getD s (2 * k) 0); have hd2 := dig_rng (List.getD s (2 * k + 1) 0); first | omega | (have hp : (2 : Int) ^ (min (4 : Int).toNat (IntKind.bits .i64)) = 16 := rfl; rw [hp]; omega) | (have hl := un_len (List.take (2 * k) s); simp only [List.length_take] at hl; (try simp only [List.length_append, List.length_cons, List.length_nil, List.length_replicate, List.length_map, List.length_take, List.length_drop, hex_len]); omega)))) ?_
 refine gN (Int.tmod (List.length s : Int) 2 = 0) (fun hc1 => ?_) fun hc1 => ?_
 ·
  refine gS [] [] 47 [(2, vc (st [])), (3, vc (bo false))] [] trivial ?_
  exact gT (AV.tup [tc (st []), tc (bo false)]) (by rw [show unhexS s = ([], false) from by first | rw [unhex_odd (by omega)] | (rcases hc3 with q | q <;> first | rw [unhex_bad (k := 2 * k) (by omega) q] | rw [unhex_bad (k := 2 * k + 1) (by omega) q])])
 ·
  refine AMx.skip ?_
  refine gS [(3, CE.obj (AObj.grow 5 1 UInt8 0 rowU8 (List.replicate 0 0)))] [(2 : Int) ≠ 0, InR .i64 (Int.tdiv (List.length s : Int) 2), 0 ≤ (0 : Int), (0 : Int) ≤ Int.tdiv (List.length s : Int) 2, (1 : Int) * (Int.tdiv (List.length s : Int) 2) ≤ 281474976710656, Int.tdiv (List.length s : Int) 2 ≤ 9223372036854775807, MakeC 0 [.s (u8 0)] (AObj.grow 5 1 UInt8 0 rowU8 (List.replicate 0 0))] 47 [(0, vc (st s)), (4, vo 15)] [(15, AObj.grow 5 1 UInt8 0 rowU8 (List.replicate 0 0))] ⟨(show (2 : Int) ≠ 0 from (by first | omega | (have hd1 := dig_rng (List.getD s (2 * k) 0); have hd2 := dig_rng (List.getD s (2 * k + 1) 0); first | omega | (have hp : (2 : Int) ^ (min (4 : Int).toNat (IntKind.bits .i64)) = 16 := rfl; rw [hp]; omega) | (have hl := un_len (List.take (2 * k) s); simp only [List.length_take] at hl; (try simp only [List.length_append, List.length_cons, List.length_nil, List.length_replicate, List.length_map, List.length_take, List.length_drop, hex_len]); omega)))), (show InR .i64 (Int.tdiv (List.length s : Int) 2) from (inR64 (by first | omega | (have hd1 := dig_rng (List.getD s (2 * k) 0); have hd2 := dig_rng (List.getD s (2 * k + 1) 0); first | omega | (have hp : (2 : Int) ^ (min (4 : Int).toNat (IntKind.bits .i64)) = 16 := rfl; rw [hp]; omega) | (have hl := un_len (List.take (2 * k) s); simp only [List.length_take] at hl; (try simp only [List.length_append, List.length_cons, List.length_nil, List.length_replicate, List.length_map, List.length_take, List.length_drop, hex_len]); omega))) (by first | omega | (have hd1 := dig_rng (List.getD s (2 * k) 0); have hd2 := dig_rng (List.getD s (2 * k + 1) 0); first | omega | (have hp : (2 : Int) ^ (min (4 : Int).toNat (IntKind.bits .i64)) = 16 := rfl; rw [hp]; omega) | (have hl := un_len (List.take (2 * k) s); simp only [List.length_take] at hl; (try simp only [List.length_append, List.length_cons, List.length_nil, List.length_replicate, List.length_map, List.length_take, List.length_drop, hex_len]); omega))))), (show 0 ≤ (0 : Int) from (by first | omega | (have hd1 := dig_rng (List.getD s (2 * k) 0); have hd2 := dig_rng (List.getD s (2 * k + 1) 0); first | omega | (have hp : (2 : Int) ^ (min (4 : Int).toNat (IntKind.bits .i64)) = 16 := rfl; rw [hp]; omega) | (have hl := un_len (List.take (2 * k) s); simp only [List.length_take] at hl; (try simp only [List.length_append, List.length_cons, List.length_nil, List.length_replicate, List.length_map, List.length_take, List.length_drop, hex_len]); omega)))), (show (0 : Int) ≤ Int.tdiv (List.length s : Int) 2 from (by first | omega | (have hd1 := dig_rng (List.getD s (2 * k) 0); have hd2 := dig_rng (List.getD s (2 * k + 1) 0); first | omega | (have hp : (2 : Int) ^ (min (4 : Int).toNat (IntKind.bits .i64)) = 16 := rfl; rw [hp]; omega) | (have hl := un_len (List.take (2 * k) s); simp only [List.length_take] at hl; (try simp only [List.length_append, List.length_cons, List.length_nil, List.length_replicate, List.length_map, List.length_take, List.length_drop, hex_len]); omega)))), (show (1 : Int) * (Int.tdiv (List.length s : Int) 2) ≤ 281474976710656 from (by first | omega | (have hd1 := dig_rng (List.getD s (2 * k) 0); have hd2 := dig_rng (List.getD s (2 * k + 1) 0); first | omega | (have hp : (2 : Int) ^ (min (4 : Int).toNat (IntKind.bits .i64)) = 16 := rfl; rw [hp]; omega) | (have hl := un_len (List.take (2 * k) s); simp only [List.length_take] at hl; (try simp only [List.length_append, List.length_cons, List.length_nil, List.length_replicate, List.length_map, List.length_take, List.length_drop, hex_len]); omega)))), (show Int.tdiv (List.length s : Int) 2 ≤ 9223372036854775807 from (by first | omega | (have hd1 := dig_rng (List.getD s (2 * k) 0); have hd2 := dig_rng (List.getD s (2 * k + 1) 0); first | omega | (have hp : (2 : Int) ^ (min (4 : Int).toNat (IntKind.bits .i64)) = 16 := rfl; rw [hp]; omega) | (have hl := un_len (List.take (2 * k) s); simp only [List.length_take] at hl; (try simp only [List.length_append, List.length_cons, List.length_nil, List.length_replicate, List.length_map, List.length_take, List.length_drop, hex_len]); omega)))), (⟨_, rfl, rfl⟩)⟩ ?_
  refine gQ ?_
  refine gS [] [] 47 [(0, vc (st s)), (4, vo 15), (5, vc (i6 0))] [(15, AObj.grow 5 1 UInt8 0 rowU8 (List.replicate 0 0))] trivial ?_
  refine AMx.block ?_
  refine AMx.ent (s' := AS.lst 47 [(0, vc (st s)), (4, vo 15), (5, vc (i6 0))] [(15, AObj.grow 5 1 UInt8 0 rowU8 (List.replicate 0 0))]) (ent_proj [0, 4, 5] [15]) ?_
  refine AMx.loop (fun mm ss => ∃ (k : Nat), (2 * k ≤ s.length ∧ HexTo s k) ∧ mm = s.length - 2 * k ∧ ss = AS.lst 47 [(0, vc (st s)), (4, vo 15), (5, vc (i6 ((2 * k : Nat) : Int)))] [(15, AObj.grow 5 1 UInt8 0 rowU8 (unpairs (List.take (2 * k) s)))]) ⟨0, ?_, rfl, ?_⟩ ?_
  · exact ⟨Nat.zero_le _, rfl⟩
  · rfl
  rintro mm ss ⟨k, ⟨hI, hN⟩, rfl, rfl⟩
  refine gQ ?_
  refine gS [] [] 47 [(0, vc (st s)), (4, vo 15), (5, vc (i6 ((2 * k : Nat) : Int))), (19, vc (bo (decide (((2 * k : Nat) : Int) < (List.length s : Int)))))] [(15, AObj.grow 5 1 UInt8 0 rowU8 (unpairs (List.take (2 * k) s)))] trivial ?_
  refine gC (((2 * k : Nat) : Int) < (List.length s : Int)) (fun hc2 => ?_) fun hc2 => ?_
  ·
   refine AMx.skip ?_
   refine gQ ?_
   refine AMx.block ?_
   refine gY [(3, CE.call [] [] (vc (i6 (digV (List.getD s (2 * k) 0)))) []), (8, CE.call [] [] (vc (i6 (digV (List.getD s ((2 * k) + 1) 0)))) [])] [] [(0 : Int) ≤ ((2 * k : Nat) : Int), ((2 * k : Nat) : Int) < List.length s, Spec Tryd.prog 84 [tc (u8 ((List.getD s (2 * k) 0).toNat : Int))] (ofH []) (vc (i6 (digV (List.getD s (2 * k) 0)))) (ofH []), InR .i64 (((2 * k : Nat) : Int) + 1), (0 : Int) ≤ ((2 * k : Nat) : Int) + 1, ((2 * k : Nat) : Int) + 1 < List.length s, Spec Tryd.prog 84 [tc (u8 ((List.getD s ((2 * k) + 1) 0).toNat : Int))] (ofH []) (vc (i6 (digV (List.getD s ((2 * k) + 1) 0)))) (ofH [])] 47 [(0, vc (st s)), (4, vo 15), (5, vc (i6 ((2 * k : Nat) : Int))), (6, vc (i6 (digV (List.getD s (2 * k) 0)))), (7, vc (i6 (digV (List.getD s ((2 * k) + 1) 0))))] [(15, AObj.grow 5 1 UInt8 0 rowU8 (unpairs (List.take (2 * k) s)))] mixed ⟨(show (0 : Int) ≤ ((2 * k : Nat) : Int) from (by first | omega | (have hd1 := dig_rng (List.getD s (2 * k) 0); have hd2 := dig_rng (List.getD s (2 * k + 1) 0); first | omega | (have hp : (2 : Int) ^ (min (4 : Int).toNat (IntKind.bits .i64)) = 16 := rfl; rw [hp]; omega) | (have hl := un_len (List.take (2 * k) s); simp only [List.length_take] at hl; (try simp only [List.length_append, List.length_cons, List.length_nil, List.length_replicate, List.length_map, List.length_take, List.length_drop, hex_len]); omega)))), (show ((2 * k : Nat) : Int) < List.length s from (by first | omega | (have hd1 := dig_rng (List.getD s (2 * k) 0); have hd2 := dig_rng (List.getD s (2 * k + 1) 0); first | omega | (have hp : (2 : Int) ^ (min (4 : Int).toNat (IntKind.bits .i64)) = 16 := rfl; rw [hp]; omega) | (have hl := un_len (List.take (2 * k) s); simp only [List.length_take] at hl; (try simp only [List.length_append, List.length_cons, List.length_nil, List.length_replicate, List.length_map, List.length_take, List.length_drop, hex_len]); omega)))), (digit_c (List.getD s (2 * k) 0)), (show InR .i64 (((2 * k : Nat) : Int) + 1) from (inR64 (by first | omega | (have hd1 := dig_rng (List.getD s (2 * k) 0); have hd2 := dig_rng (List.getD s (2 * k + 1) 0); first | omega | (have hp : (2 : Int) ^ (min (4 : Int).toNat (IntKind.bits .i64)) = 16 := rfl; rw [hp]; omega) | (have hl := un_len (List.take (2 * k) s); simp only [List.length_take] at hl; (try simp only [List.length_append, List.length_cons, List.length_nil, List.length_replicate, List.length_map, List.length_take, List.length_drop, hex_len]); omega))) (by first | omega | (have hd1 := dig_rng (List.getD s (2 * k) 0); have hd2 := dig_rng (List.getD s (2 * k + 1) 0); first | omega | (have hp : (2 : Int) ^ (min (4 : Int).toNat (IntKind.bits .i64)) = 16 := rfl; rw [hp]; omega) | (have hl := un_len (List.take (2 * k) s); simp only [List.length_take] at hl; (try simp only [List.length_append, List.length_cons, List.length_nil, List.length_replicate, List.length_map, List.length_take, List.length_drop, hex_len]); omega))))), (show (0 : Int) ≤ ((2 * k : Nat) : Int) + 1 from (by first | omega | (have hd1 := dig_rng (List.getD s (2 * k) 0); have hd2 := dig_rng (List.getD s (2 * k + 1) 0); first | omega | (have hp : (2 : Int) ^ (min (4 : Int).toNat (IntKind.bits .i64)) = 16 := rfl; rw [hp]; omega) | (have hl := un_len (List.take (2 * k) s); simp only [List.length_take] at hl; (try simp only [List.length_append, List.length_cons, List.length_nil, List.length_replicate, List.length_map, List.length_take, List.length_drop, hex_len]); omega)))), (show ((2 * k : Nat) : Int) + 1 < List.length s from (by first | omega | (have hd1 := dig_rng (List.getD s (2 * k) 0); have hd2 := dig_rng (List.getD s (2 * k + 1) 0); first | omega | (have hp : (2 : Int) ^ (min (4 : Int).toNat (IntKind.bits .i64)) = 16 := rfl; rw [hp]; omega) | (have hl := un_len (List.take (2 * k) s); simp only [List.length_take] at hl; (try simp only [List.length_append, List.length_cons, List.length_nil, List.length_replicate, List.length_map, List.length_take, List.length_drop, hex_len]); omega)))), (digit_c (List.getD s ((2 * k) + 1) 0))⟩ ?_
   refine gQ ?_
   refine gS [] [((decide (digV (List.getD s (2 * k) 0) < 0)) = false) → allP [], ((decide (digV (List.getD s (2 * k) 0) < 0)) = false) → allP [(decide (digV (List.getD s (2 * k) 0) < 0)) = false], (decide (digV (List.getD s (2 * k) 0) < 0)) = false → allP [(decide (digV (List.getD s (2 * k) 0) < 0)) = false]] 47 [(0, vc (st s)), (4, vo 15), (5, vc (i6 ((2 * k : Nat) : Int))), (6, vc (i6 (digV (List.getD s (2 * k) 0)))), (7, vc (i6 (digV (List.getD s ((2 * k) + 1) 0)))), (36, vc (bo ((decide (digV (List.getD s (2 * k) 0) < 0)) || (decide (digV (List.getD s ((2 * k) + 1) 0) < 0)))))] [(15, AObj.grow 5 1 UInt8 0 rowU8 (unpairs (List.take (2 * k) s)))] ⟨(fun _ => trivial), (fun hp => hp), (fun hp2 => (by first | exact hp2 | exact ⟨hp, hp2⟩))⟩ ?_
   refine gB (((decide (digV (List.getD s (2 * k) 0) < 0)) || (decide (digV (List.getD s ((2 * k) + 1) 0) < 0)))) (fun hc3 => ?_) fun hc3 => ?_
   ·
    try simp only [xT, xF, xO, xP] at hc3
    refine gS [] [] 47 [(2, vc (st [])), (3, vc (bo false))] [] trivial ?_
    exact gT (AV.tup [tc (st []), tc (bo false)]) (by rw [show unhexS s = ([], false) from by first | rw [unhex_odd (by omega)] | (rcases hc3 with q | q <;> first | rw [unhex_bad (k := 2 * k) (by omega) q] | rw [unhex_bad (k := 2 * k + 1) (by omega) q])])
   ·
    try simp only [xT, xF, xO, xP] at hc3
    refine AMx.skip ?_
    refine gR [(6, CE.obj (AObj.grow 5 1 UInt8 0 rowU8 [pairB (List.getD s (2 * k) 0) (List.getD s (2 * k + 1) 0)])), (7, CE.obj (AObj.grow 5 1 UInt8 0 rowU8 ((unpairs (List.take (2 * k) s)) ++ [pairB (List.getD s (2 * k) 0) (List.getD s (2 * k + 1) 0)])))] [(0 : Int) ≤ 4, InR .i64 ((digV (List.getD s (2 * k) 0)) * 2 ^ (min (4 : Int).toNat (IntKind.bits .i64))), flat 1 rowU8 [pairB (List.getD s (2 * k) 0) (List.getD s (2 * k + 1) 0)] = [.s (u8 (IntKind.wrap .u8 (IntKind.wrap .i64 ((BitVec.ofInt 64 ((digV (List.getD s (2 * k) 0)) * 2 ^ (min (4 : Int).toNat (IntKind.bits .i64))) ||| BitVec.ofInt 64 (digV (List.getD s ((2 * k) + 1) 0))).toNat))))], List.length ([pairB (List.getD s (2 * k) 0) (List.getD s (2 * k + 1) 0)] : List UInt8) = 1, AppC (flat 1 rowU8 [pairB (List.getD s (2 * k) 0) (List.getD s (2 * k + 1) 0)]) (List.length ([pairB (List.getD s (2 * k) 0) (List.getD s (2 * k + 1) 0)] : List UInt8)) 1 (AObj.grow 5 1 UInt8 0 rowU8 (unpairs (List.take (2 * k) s))) (AObj.grow 5 1 UInt8 0 rowU8 ((unpairs (List.take (2 * k) s)) ++ [pairB (List.getD s (2 * k) 0) (List.getD s (2 * k + 1) 0)]))] 47 [(0, vc (st s)), (4, vo 44), (5, vc (i6 ((2 * k : Nat) : Int)))] [(44, AObj.grow 5 1 UInt8 0 rowU8 ((unpairs (List.take (2 * k) s)) ++ [pairB (List.getD s (2 * k) 0) (List.getD s (2 * k + 1) 0)]))] ⟨(show (0 : Int) ≤ 4 from (by first | omega | (have hd1 := dig_rng (List.getD s (2 * k) 0); have hd2 := dig_rng (List.getD s (2 * k + 1) 0); first | omega | (have hp : (2 : Int) ^ (min (4 : Int).toNat (IntKind.bits .i64)) = 16 := rfl; rw [hp]; omega) | (have hl := un_len (List.take (2 * k) s); simp only [List.length_take] at hl; (try simp only [List.length_append, List.length_cons, List.length_nil, List.length_replicate, List.length_map, List.length_take, List.length_drop, hex_len]); omega)))), (show InR .i64 ((digV (List.getD s (2 * k) 0)) * 2 ^ (min (4 : Int).toNat (IntKind.bits .i64))) from (inR64 (by first | omega | (have hd1 := dig_rng (List.getD s (2 * k) 0); have hd2 := dig_rng (List.getD s (2 * k + 1) 0); first | omega | (have hp : (2 : Int) ^ (min (4 : Int).toNat (IntKind.bits .i64)) = 16 := rfl; rw [hp]; omega) | (have hl := un_len (List.take (2 * k) s); simp only [List.length_take] at hl; (try simp only [List.length_append, List.length_cons, List.length_nil, List.length_replicate, List.length_map, List.length_take, List.length_drop, hex_len]); omega))) (by first | omega | (have hd1 := dig_rng (List.getD s (2 * k) 0); have hd2 := dig_rng (List.getD s (2 * k + 1) 0); first | omega | (have hp : (2 : Int) ^ (min (4 : Int).toNat (IntKind.bits .i64)) = 16 := rfl; rw [hp]; omega) | (have hl := un_len (List.take (2 * k) s); simp only [List.length_take] at hl; (try simp only [List.length_append, List.length_cons, List.length_nil, List.length_replicate, List.length_map, List.length_take, List.length_drop, hex_len]); omega))))), (one_pair (by omega) (by omega)), rfl, (⟨_, rfl, rfl, rfl, by have hl := un_len (List.take (2 * k) s); simp only [List.length_append, List.length_cons, List.length_nil, List.length_replicate, List.length_map, List.length_take, List.length_drop, hex_len] at *; omega, by have hl := un_len (List.take (2 * k) s); simp only [maxLen, List.length_append, List.length_cons, List.length_nil, List.length_replicate, List.length_map, List.length_take, List.length_drop, hex_len] at *; omega⟩)⟩ ?_
    refine AMx.blk ?_
    refine gR [] [InR .i64 (((2 * k : Nat) : Int) + 2)] 47 [(0, vc (st s)), (4, vo 44), (5, vc (i6 (((2 * k : Nat) : Int) + 2)))] [(44, AObj.grow 5 1 UInt8 0 rowU8 ((unpairs (List.take (2 * k) s)) ++ [pairB (List.getD s (2 * k) 0) (List.getD s (2 * k + 1) 0)]))] (show InR .i64 (((2 * k : Nat) : Int) + 2) from (inR64 (by first | omega | (have hd1 := dig_rng (List.getD s (2 * k) 0); have hd2 := dig_rng (List.getD s (2 * k + 1) 0); first | omega | (have hp : (2 : Int) ^ (min (4 : Int).toNat (IntKind.bits .i64)) = 16 := rfl; rw [hp]; omega) | (have hl := un_len (List.take (2 * k) s); simp only [List.length_take] at hl; (try simp only [List.length_append, List.length_cons, List.length_nil, List.length_replicate, List.length_map, List.length_take, List.length_drop, hex_len]); omega))) (by first | omega | (have hd1 := dig_rng (List.getD s (2 * k) 0); have hd2 := dig_rng (List.getD s (2 * k + 1) 0); first | omega | (have hp : (2 : Int) ^ (min (4 : Int).toNat (IntKind.bits .i64)) = 16 := rfl; rw [hp]; omega) | (have hl := un_len (List.take (2 * k) s); simp only [List.length_take] at hl; (try simp only [List.length_append, List.length_cons, List.length_nil, List.length_replicate, List.length_map, List.length_take, List.length_drop, hex_len]); omega))))) ?_
    refine AMx.ent_inv (s' := AS.lst 47 [(0, vc (st s)), (4, vo 15), (5, vc (i6 (((2 * k : Nat) : Int) + 2)))] [(15, AObj.grow 5 1 UInt8 0 rowU8 ((unpairs (List.take (2 * k) s)) ++ [pairB (List.getD s (2 * k) 0) (List.getD s (2 * k + 1) 0)]))]) (ent_swap 44 15 (by kernel_rfl) (by kernel_rfl)) ?_
    refine AMx.ent_inv (s' := AS.lst 47 [(0, vc (st s)), (4, vo 15), (5, vc (i6 (((2 * k : Nat) : Int) + 2)))] [(15, AObj.grow 5 1 UInt8 0 rowU8 ((unpairs (List.take (2 * k) s)) ++ [pairB (List.getD s (2 * k) 0) (List.getD s (2 * k + 1) 0)]))]) (ent_proj [0, 4, 5] [15]) ?_
    refine AMx.inv ⟨_, ?_, k + 1, ?_, rfl, ?_⟩
    rotate_left
    · exact ⟨by omega, hexto_step (by omega) hN (by omega) (by omega)⟩
    · rw [← un_step k s (by omega)]; rfl
    · omega
  ·
   refine AMx.exit ?_
   refine AMx.code_exit ?_
   refine AMx.inv_exit ?_
   refine AMx.blk_exit ?_
   refine gS [(1, CE.str (unpairs (List.take (2 * k) s)))] [flat 1 rowU8 (unpairs (List.take (2 * k) s)) = flat 1 rowU8 (unpairs (List.take (2 * k) s)), List.length (unpairs (List.take (2 * k) s) : List UInt8) = List.length (unpairs (List.take (2 * k) s) : List UInt8), (List.length (unpairs (List.take (2 * k) s) : List UInt8) : Int) ≤ 140737488355328] 47 [(2, vc (st (unpairs (List.take (2 * k) s)))), (3, vc (bo true))] [] ⟨rfl, rfl, (show (List.length (unpairs (List.take (2 * k) s) : List UInt8) : Int) ≤ 140737488355328 from (by first | omega | (have hd1 := dig_rng (List.getD s (2 * k) 0); have hd2 := dig_rng (List.getD s (2 * k + 1) 0); first | omega | (have hp : (2 : Int) ^ (min (4 : Int).toNat (IntKind.bits .i64)) = 16 := rfl; rw [hp]; omega) | (have hl := un_len (List.take (2 * k) s); simp only [List.length_take] at hl; (try simp only [List.length_append, List.length_cons, List.length_nil, List.length_replicate, List.length_map, List.length_take, List.length_drop, hex_len]); omega))))⟩ ?_
   exact gT (AV.tup [tc (st (unpairs (List.take (2 * k) s))), tc (bo true)]) (by rw [show unhexS s = (unpairs (List.take (2 * k) s), true) from by rw [unhex_end (k := k) (by omega) hN]])
end AL.Ask
namespace AL.Reply
set_option linter.unusedVariables false
set_option linter.unusedSimpArgs false
end AL.Reply
namespace AL.Reply
open Go Go.Proofs AL
set_option linter.unusedVariables false
set_option linter.unusedSimpArgs false
open AL.Ask (scanN valS sizeB digB numS hexS unhexS)
theorem f43_body : Tryd.f43.body = some (.seq (.region 0 (rg Tryd.f43 0) false) (.seq (.region 1 (rg Tryd.f43 1) false) (.seq (.region 2 (rg Tryd.f43 2) false) (.seq (.seq (.region 3 (rg Tryd.f43 3) false) (.block 0 (.loop (.seq (.region 4 (rg Tryd.f43 4) false) (.seq (.cond (.tmp 28) (.skip) (.exit 0)) (.seq (.block 1 (.seq (.region 5 (rg Tryd.f43 5) false) (.seq (.region 6 (rg Tryd.f43 6) false) (.region 7 (rg Tryd.f43 7) false)))) (.region 8 (rg Tryd.f43 8) false))))))) (.seq (.region 9 (rg Tryd.f43 9) false) (.ret)))))) := by kernel_rfl
set_option maxRecDepth 100000 in
set_option maxHeartbeats 8000000 in
theorem num_c (s : Bytes) : PureX Tryd.prog 43 [tc (st s)] (vc (i6 (scanN s))) (0 ≤ scanN s) := by
 refine PureX.of_body Tryd.func43 f43_body (by kernel_rfl) Tryd.ntmps43 (by kernel_rfl) (by kernel_rfl) ?_
 refine AMx.str 0 (b := s) rfl (fun hls => ?_)
 simp only [maxLen] at hls
 refine gS [] [] 46 [(0, vc (st s))] [] trivial ?_
 refine gSx [(17, CE.call [] [] (AV.tup []) [])] [(17, (((decide (1 ≤ (List.length s : Int))) && (decide ((List.length s : Int) ≤ 3))) && ((decide (s = [48])) || (!decide (((List.getD s 0 0).toNat : Int) = 48)))) = true)] [((decide (1 ≤ (List.length s : Int))) = true) → allP [], ((decide (1 ≤ (List.length s : Int))) = true) → allP [(decide (1 ≤ (List.length s : Int))) = true], ((decide (1 ≤ (List.length s : Int))) = true) → allP [(decide (1 ≤ (List.length s : Int))) = true], (decide (1 ≤ (List.length s : Int))) = true → allP [(decide (1 ≤ (List.length s : Int))) = true], (((decide (1 ≤ (List.length s : Int))) && (decide ((List.length s : Int) ≤ 3))) = true) → allP [], (((decide (1 ≤ (List.length s : Int))) && (decide ((List.length s : Int) ≤ 3))) = true) → allP [((decide (1 ≤ (List.length s : Int))) && (decide ((List.length s : Int) ≤ 3))) = true], (((decide (1 ≤ (List.length s : Int))) && (decide ((List.length s : Int) ≤ 3))) = true) → allP [((decide (1 ≤ (List.length s : Int))) && (decide ((List.length s : Int) ≤ 3))) = true], ((((decide (1 ≤ (List.length s : Int))) && (decide ((List.length s : Int) ≤ 3))) = true) ∧ (decide (s = [48])) = false) → allP [], ((((decide (1 ≤ (List.length s : Int))) && (decide ((List.length s : Int) ≤ 3))) = true) ∧ (decide (s = [48])) = false) → allP [(((decide (1 ≤ (List.length s : Int))) && (decide ((List.length s : Int) ≤ 3))) = true) ∧ (decide (s = [48])) = false, (0 : Int) ≤ 0, (0 : Int) < List.length s], ((((decide (1 ≤ (List.length s : Int))) && (decide ((List.length s : Int) ≤ 3))) = true) ∧ (decide (s = [48])) = false) → allP [(((decide (1 ≤ (List.length s : Int))) && (decide ((List.length s : Int) ≤ 3))) = true) ∧ (decide (s = [48])) = false], (((decide (1 ≤ (List.length s : Int))) && (decide ((List.length s : Int) ≤ 3))) = true) → allP [((decide (1 ≤ (List.length s : Int))) && (decide ((List.length s : Int) ≤ 3))) = true, (decide (s = [48])) = false → allP [(((decide (1 ≤ (List.length s : Int))) && (decide ((List.length s : Int) ≤ 3))) = true) ∧ (decide (s = [48])) = false]], ((decide (1 ≤ (List.length s : Int))) && (decide ((List.length s : Int) ≤ 3))) = true → allP [((decide (1 ≤ (List.length s : Int))) && (decide ((List.length s : Int) ≤ 3))) = true], PureX Tryd.prog 42 [tc (bo (((decide (1 ≤ (List.length s : Int))) && (decide ((List.length s : Int) ≤ 3))) && ((decide (s = [48])) || (!decide (((List.getD s 0 0).toNat : Int) = 48)))))] (AV.tup []) ((((decide (1 ≤ (List.length s : Int))) && (decide ((List.length s : Int) ≤ 3))) && ((decide (s = [48])) || (!decide (((List.getD s 0 0).toNat : Int) = 48)))) = true)] 46 [(0, vc (st s))] [] ⟨(fun _ => trivial), (fun hp => hp), (fun hp => hp), (fun hp2 => (by first | exact hp2 | exact ⟨hp, hp2⟩)), (fun _ => trivial), (fun hp => hp), (fun hp => hp), (fun _ => trivial), (fun hp => by have hq := hp; (try simp only [decide_eq_true_eq, decide_eq_false_iff_not, Bool.and_eq_true, Bool.or_eq_true, Bool.and_eq_false_iff, Bool.or_eq_false_iff, Bool.not_eq_true', Bool.not_eq_false', Bool.not_eq_true, Bool.not_eq_false] at hq); exact ⟨hp, (show (0 : Int) ≤ 0 from (by first | omega | (have hb := UInt8.toNat_lt (List.getD s k 0); have hs3 := num_size3 hx1; have hv := Ask.val_rng s k (by omega) (by omega) hD; have hp := Ask.pow_le3 (p := k) (by omega); first | omega | (have hd := num_digx hx2; have hw := Ask.wrap_u8 (n := ((List.getD s k 0).toNat : Int) - 48) (by omega) (by omega); omega)))), (show (0 : Int) < List.length s from (by first | omega | (have hb := UInt8.toNat_lt (List.getD s k 0); have hs3 := num_size3 hx1; have hv := Ask.val_rng s k (by omega) (by omega) hD; have hp := Ask.pow_le3 (p := k) (by omega); first | omega | (have hd := num_digx hx2; have hw := Ask.wrap_u8 (n := ((List.getD s k 0).toNat : Int) - 48) (by omega) (by omega); omega))))⟩), (fun hp => hp), (fun hp => by have hq := hp; (try simp only [decide_eq_true_eq, decide_eq_false_iff_not, Bool.and_eq_true, Bool.or_eq_true, Bool.and_eq_false_iff, Bool.or_eq_false_iff, Bool.not_eq_true', Bool.not_eq_false', Bool.not_eq_true, Bool.not_eq_false] at hq); exact ⟨hp, (fun hp2 => (by first | exact hp2 | exact ⟨hp, hp2⟩))⟩), (fun hp2 => (by first | exact hp2 | exact ⟨hp, hp2⟩)), (must_c (((decide (1 ≤ (List.length s : Int))) && (decide ((List.length s : Int) ≤ 3))) && ((decide (s = [48])) || (!decide (((List.getD s 0 0).toNat : Int) = 48)))))⟩ (fun hok => (show ((((decide (1 ≤ (List.length s : Int))) && (decide ((List.length s : Int) ≤ 3))) && ((decide (s = [48])) || (!decide (((List.getD s 0 0).toNat : Int) = 48)))) = true) by rw [num_size]; exact (scan_ok.1 hok).1)) (fun hx1 => ?_)
 replace hx1 : ((((decide (1 ≤ (List.length s : Int))) && (decide ((List.length s : Int) ≤ 3))) && ((decide (s = [48])) || (!decide (((List.getD s 0 0).toNat : Int) = 48)))) = true) := hx1
 refine gS [] [] 46 [(0, vc (st s)), (3, vc (i6 0))] [] trivial ?_
 refine gQ ?_
 refine gS [] [] 46 [(3, vc (i6 0)), (25, vc (SC.sl 1 UInt8 0 rowU8 s)), (26, vc (i6 (List.length s : Int))), (27, vc (i6 0))] [] trivial ?_
 refine AMx.block ?_
 refine AMx.ent (s' := AS.lst 46 [(3, vc (i6 0)), (25, vc (SC.sl 1 UInt8 0 rowU8 s)), (26, vc (i6 (List.length s : Int))), (27, vc (i6 0))] []) (ent_proj [3, 25, 26, 27] []) ?_
 refine AMx.loop (fun mm ss => ∃ (k : Nat), (k ≤ s.length ∧ (List.take k s).all digB = true) ∧ mm = s.length - k ∧ ss = AS.lst 46 [(3, vc (i6 (valS (List.take k s)))), (25, vc (SC.sl 1 UInt8 0 rowU8 s)), (26, vc (i6 (List.length s : Int))), (27, vc (i6 (k : Int)))] []) ⟨0, ?_, rfl, ?_⟩ ?_
 · exact ⟨Nat.zero_le _, rfl⟩
 · rfl
 rintro mm ss ⟨k, ⟨hI, hD⟩, rfl, rfl⟩
 refine gS [] [] 46 [(3, vc (i6 (valS (List.take k s)))), (25, vc (SC.sl 1 UInt8 0 rowU8 s)), (26, vc (i6 (List.length s : Int))), (27, vc (i6 (k : Int))), (28, vc (bo (decide ((k : Int) < (List.length s : Int)))))] [] trivial ?_
 refine gQ ?_
 refine gC ((k : Int) < (List.length s : Int)) (fun hc1 => ?_) fun hc1 => ?_
 ·
  refine AMx.skip ?_
  refine gQ ?_
  refine AMx.block ?_
  refine gS [] [(0 : Int) ≤ (k : Int), (k : Int) < List.length s] 46 [(3, vc (i6 (valS (List.take k s)))), (5, vc (u8 ((List.getD s k 0).toNat : Int))), (25, vc (SC.sl 1 UInt8 0 rowU8 s)), (26, vc (i6 (List.length s : Int))), (27, vc (i6 (k : Int)))] [] ⟨(show (0 : Int) ≤ (k : Int) from (by first | omega | (have hb := UInt8.toNat_lt (List.getD s k 0); have hs3 := num_size3 hx1; have hv := Ask.val_rng s k (by omega) (by omega) hD; have hp := Ask.pow_le3 (p := k) (by omega); first | omega | (have hd := num_digx hx2; have hw := Ask.wrap_u8 (n := ((List.getD s k 0).toNat : Int) - 48) (by omega) (by omega); omega)))), (show (k : Int) < List.length s from (by first | omega | (have hb := UInt8.toNat_lt (List.getD s k 0); have hs3 := num_size3 hx1; have hv := Ask.val_rng s k (by omega) (by omega) hD; have hp := Ask.pow_le3 (p := k) (by omega); first | omega | (have hd := num_digx hx2; have hw := Ask.wrap_u8 (n := ((List.getD s k 0).toNat : Int) - 48) (by omega) (by omega); omega))))⟩ ?_
  refine gSx [(6, CE.call [] [] (AV.tup []) [])] [(6, ((decide (48 ≤ ((List.getD s k 0).toNat : Int))) && (decide (((List.getD s k 0).toNat : Int) ≤ 57))) = true)] [((decide (48 ≤ ((List.getD s k 0).toNat : Int))) = true) → allP [], ((decide (48 ≤ ((List.getD s k 0).toNat : Int))) = true) → allP [(decide (48 ≤ ((List.getD s k 0).toNat : Int))) = true], (decide (48 ≤ ((List.getD s k 0).toNat : Int))) = true → allP [(decide (48 ≤ ((List.getD s k 0).toNat : Int))) = true], PureX Tryd.prog 42 [tc (bo ((decide (48 ≤ ((List.getD s k 0).toNat : Int))) && (decide (((List.getD s k 0).toNat : Int) ≤ 57))))] (AV.tup []) (((decide (48 ≤ ((List.getD s k 0).toNat : Int))) && (decide (((List.getD s k 0).toNat : Int) ≤ 57))) = true)] 46 [(3, vc (i6 (valS (List.take k s)))), (5, vc (u8 ((List.getD s k 0).toNat : Int))), (25, vc (SC.sl 1 UInt8 0 rowU8 s)), (26, vc (i6 (List.length s : Int))), (27, vc (i6 (k : Int)))] [] ⟨(fun _ => trivial), (fun hp => hp), (fun hp2 => (by first | exact hp2 | exact ⟨hp, hp2⟩)), (must_c ((decide (48 ≤ ((List.getD s k 0).toNat : Int))) && (decide (((List.getD s k 0).toNat : Int) ≤ 57))))⟩ (fun hok => (show (((decide (48 ≤ ((List.getD s k 0).toNat : Int))) && (decide (((List.getD s k 0).toNat : Int) ≤ 57))) = true) by exact num_dig (scan_ok.1 hok).2 (by omega))) (fun hx2 => ?_)
  replace hx2 : (((decide (48 ≤ ((List.getD s k 0).toNat : Int))) && (decide (((List.getD s k 0).toNat : Int) ≤ 57))) = true) := hx2
  refine gR [] [InR .i64 (10 * (valS (List.take k s))), InR .i64 ((10 * (valS (List.take k s))) + (IntKind.wrap .u8 (((List.getD s k 0).toNat : Int) - 48)))] 46 [(3, vc (i6 ((10 * (valS (List.take k s))) + (IntKind.wrap .u8 (((List.getD s k 0).toNat : Int) - 48))))), (25, vc (SC.sl 1 UInt8 0 rowU8 s)), (26, vc (i6 (List.length s : Int))), (27, vc (i6 (k : Int)))] [] ⟨(show InR .i64 (10 * (valS (List.take k s))) from (inR64 (by first | omega | (have hb := UInt8.toNat_lt (List.getD s k 0); have hs3 := num_size3 hx1; have hv := Ask.val_rng s k (by omega) (by omega) hD; have hp := Ask.pow_le3 (p := k) (by omega); first | omega | (have hd := num_digx hx2; have hw := Ask.wrap_u8 (n := ((List.getD s k 0).toNat : Int) - 48) (by omega) (by omega); omega))) (by first | omega | (have hb := UInt8.toNat_lt (List.getD s k 0); have hs3 := num_size3 hx1; have hv := Ask.val_rng s k (by omega) (by omega) hD; have hp := Ask.pow_le3 (p := k) (by omega); first | omega | (have hd := num_digx hx2; have hw := Ask.wrap_u8 (n := ((List.getD s k 0).toNat : Int) - 48) (by omega) (by omega); omega))))), (show InR .i64 ((10 * (valS (List.take k s))) + (IntKind.wrap .u8 (((List.getD s k 0).toNat : Int) - 48))) from (inR64 (by first | omega | (have hb := UInt8.toNat_lt (List.getD s k 0); have hs3 := num_size3 hx1; have hv := Ask.val_rng s k (by omega) (by omega) hD; have hp := Ask.pow_le3 (p := k) (by omega); first | omega | (have hd := num_digx hx2; have hw := Ask.wrap_u8 (n := ((List.getD s k 0).toNat : Int) - 48) (by omega) (by omega); omega))) (by first | omega | (have hb := UInt8.toNat_lt (List.getD s k 0); have hs3 := num_size3 hx1; have hv := Ask.val_rng s k (by omega) (by omega) hD; have hp := Ask.pow_le3 (p := k) (by omega); first | omega | (have hd := num_digx hx2; have hw := Ask.wrap_u8 (n := ((List.getD s k 0).toNat : Int) - 48) (by omega) (by omega); omega)))))⟩ ?_
  refine AMx.blk ?_
  refine gR [] [InR .i64 ((k : Int) + 1)] 46 [(3, vc (i6 ((10 * (valS (List.take k s))) + (IntKind.wrap .u8 (((List.getD s k 0).toNat : Int) - 48))))), (25, vc (SC.sl 1 UInt8 0 rowU8 s)), (26, vc (i6 (List.length s : Int))), (27, vc (i6 ((k : Int) + 1)))] [] (show InR .i64 ((k : Int) + 1) from (inR64 (by first | omega | (have hb := UInt8.toNat_lt (List.getD s k 0); have hs3 := num_size3 hx1; have hv := Ask.val_rng s k (by omega) (by omega) hD; have hp := Ask.pow_le3 (p := k) (by omega); first | omega | (have hd := num_digx hx2; have hw := Ask.wrap_u8 (n := ((List.getD s k 0).toNat : Int) - 48) (by omega) (by omega); omega))) (by first | omega | (have hb := UInt8.toNat_lt (List.getD s k 0); have hs3 := num_size3 hx1; have hv := Ask.val_rng s k (by omega) (by omega) hD; have hp := Ask.pow_le3 (p := k) (by omega); first | omega | (have hd := num_digx hx2; have hw := Ask.wrap_u8 (n := ((List.getD s k 0).toNat : Int) - 48) (by omega) (by omega); omega))))) ?_
  refine AMx.ent_inv (s' := AS.lst 46 [(3, vc (i6 ((10 * (valS (List.take k s))) + (IntKind.wrap .u8 (((List.getD s k 0).toNat : Int) - 48))))), (25, vc (SC.sl 1 UInt8 0 rowU8 s)), (26, vc (i6 (List.length s : Int))), (27, vc (i6 ((k : Int) + 1)))] []) (ent_proj [3, 25, 26, 27] []) ?_
  refine AMx.inv ⟨_, ?_, k + 1, ?_, rfl, ?_⟩
  rotate_left
  · exact ⟨by omega, num_all (by omega) hD hx2⟩
  · rw [← num_step (by omega) hx2] <;> rfl
  · omega
 ·
  refine AMx.exit ?_
  refine AMx.code_exit ?_
  refine AMx.inv_exit ?_
  refine AMx.blk_exit ?_
  rw [show List.take k s = s from List.take_of_length_le (by omega)]
  refine gS [] [] 46 [(2, vc (i6 (valS s)))] [] trivial ?_
  exact gTx (by exact num_fin hx1 (by omega) hD) (vc (i6 (valS s))) (by rw [show scanN s = valS s from by rw [num_val hx1 (by omega) hD]])
theorem f76_body : Tryd.f76.body = some (.seq (.region 0 (rg Tryd.f76 0) false) (.seq (.region 1 (rg Tryd.f76 1) false) (.seq (.region 2 (rg Tryd.f76 2) false) (.ret)))) := by kernel_rfl
set_option maxRecDepth 100000 in
set_option maxHeartbeats 8000000 in
theorem flag_c (s : Bytes) : PureX Tryd.prog 76 [tc (st s)] (vc (bo (decide (s = [49])))) (flagOk s) := by
 refine PureX.of_body Tryd.func76 f76_body (by kernel_rfl) Tryd.ntmps76 (by kernel_rfl) (by kernel_rfl) ?_
 refine gS [] [] 12 [(0, vc (st s))] [] trivial ?_
 refine gSx [(6, CE.call [] [] (AV.tup []) [])] [(6, ((decide (s = [48])) || (decide (s = [49]))) = true)] [((decide (s = [48])) = false) → allP [], ((decide (s = [48])) = false) → allP [(decide (s = [48])) = false], (decide (s = [48])) = false → allP [(decide (s = [48])) = false], PureX Tryd.prog 42 [tc (bo ((decide (s = [48])) || (decide (s = [49]))))] (AV.tup []) (((decide (s = [48])) || (decide (s = [49]))) = true)] 12 [(0, vc (st s))] [] ⟨(fun _ => trivial), (fun hp => hp), (fun hp2 => (by first | exact hp2 | exact ⟨hp, hp2⟩)), (must_c ((decide (s = [48])) || (decide (s = [49]))))⟩ (fun hok => (show (((decide (s = [48])) || (decide (s = [49]))) = true) by rw [flag_b]; exact hok)) (fun hx1 => ?_)
 replace hx1 : (((decide (s = [48])) || (decide (s = [49]))) = true) := hx1
 refine gS [] [] 12 [(2, vc (bo (decide (s = [49]))))] [] trivial ?_
 exact gTx (by rw [flag_b] at hx1; exact hx1) (vc (bo (decide (s = [49])))) rfl
theorem f94_body : Tryd.f94.body = some (.seq (.region 0 (rg Tryd.f94 0) false) (.seq (.region 1 (rg Tryd.f94 1) false) (.ret))) := by kernel_rfl
set_option maxRecDepth 100000 in
set_option maxHeartbeats 8000000 in
theorem HasSuf_c (k : UInt8) (s : Bytes) : Pure Tryd.prog 94 [tc (st s), tc (st [k])] (vc (bo (sufS k s))) := by
 refine Pure.of_body Tryd.func94 f94_body (by kernel_rfl) Tryd.ntmps94 (by kernel_rfl) (by kernel_rfl) ?_
 refine AMx.str 0 (b := s) rfl (fun hls => ?_)
 simp only [maxLen] at hls
 refine gS [] [] 21 [(0, vc (st s)), (1, vc (st [k]))] [] trivial ?_
 refine gS [] [((decide ((List.length ([k] : List UInt8) : Int) ≤ (List.length s : Int))) = true) → allP [], ((decide ((List.length ([k] : List UInt8) : Int) ≤ (List.length s : Int))) = true) → allP [], ((decide ((List.length ([k] : List UInt8) : Int) ≤ (List.length s : Int))) = true) → allP [(decide ((List.length ([k] : List UInt8) : Int) ≤ (List.length s : Int))) = true], ((decide ((List.length ([k] : List UInt8) : Int) ≤ (List.length s : Int))) = true) → allP [], ((decide ((List.length ([k] : List UInt8) : Int) ≤ (List.length s : Int))) = true) → allP [(decide ((List.length ([k] : List UInt8) : Int) ≤ (List.length s : Int))) = true], ((decide ((List.length ([k] : List UInt8) : Int) ≤ (List.length s : Int))) = true) → allP [(decide ((List.length ([k] : List UInt8) : Int) ≤ (List.length s : Int))) = true, (decide ((List.length ([k] : List UInt8) : Int) ≤ (List.length s : Int))) = true, InR .i64 ((List.length s : Int) - (List.length ([k] : List UInt8) : Int))], ((decide ((List.length ([k] : List UInt8) : Int) ≤ (List.length s : Int))) = true) → allP [(decide ((List.length ([k] : List UInt8) : Int) ≤ (List.length s : Int))) = true, (decide ((List.length ([k] : List UInt8) : Int) ≤ (List.length s : Int))) = true, 0 ≤ (List.length s : Int) - (List.length ([k] : List UInt8) : Int), (List.length s : Int) - (List.length ([k] : List UInt8) : Int) ≤ List.length s], ((decide ((List.length ([k] : List UInt8) : Int) ≤ (List.length s : Int))) = true) → allP [], ((decide ((List.length ([k] : List UInt8) : Int) ≤ (List.length s : Int))) = true) → allP [(decide ((List.length ([k] : List UInt8) : Int) ≤ (List.length s : Int))) = true, (decide ((List.length ([k] : List UInt8) : Int) ≤ (List.length s : Int))) = true], (decide ((List.length ([k] : List UInt8) : Int) ≤ (List.length s : Int))) = true → allP [(decide ((List.length ([k] : List UInt8) : Int) ≤ (List.length s : Int))) = true]] 21 [(4, vc (bo ((decide ((List.length ([k] : List UInt8) : Int) ≤ (List.length s : Int))) && (decide (List.drop ((List.length s : Int) - (List.length ([k] : List UInt8) : Int)).toNat s = [k])))))] [] ⟨(fun _ => trivial), (fun _ => trivial), (fun hp => hp), (fun _ => trivial), (fun hp => hp), (fun hp => by have hq := hp; (try simp only [decide_eq_true_eq, decide_eq_false_iff_not, Bool.and_eq_true, Bool.or_eq_true, Bool.and_eq_false_iff, Bool.or_eq_false_iff, Bool.not_eq_true', Bool.not_eq_false', Bool.not_eq_true, Bool.not_eq_false] at hq); exact ⟨hp, hp, (show InR .i64 ((List.length s : Int) - (List.length ([k] : List UInt8) : Int)) from (inR64 (by first | omega | (have h1 : List.length ([k] : List UInt8) = 1 := rfl; omega)) (by first | omega | (have h1 : List.length ([k] : List UInt8) = 1 := rfl; omega))))⟩), (fun hp => by have hq := hp; (try simp only [decide_eq_true_eq, decide_eq_false_iff_not, Bool.and_eq_true, Bool.or_eq_true, Bool.and_eq_false_iff, Bool.or_eq_false_iff, Bool.not_eq_true', Bool.not_eq_false', Bool.not_eq_true, Bool.not_eq_false] at hq); exact ⟨hp, hp, (show 0 ≤ (List.length s : Int) - (List.length ([k] : List UInt8) : Int) from (by first | omega | (have h1 : List.length ([k] : List UInt8) = 1 := rfl; omega))), (show (List.length s : Int) - (List.length ([k] : List UInt8) : Int) ≤ List.length s from (by first | omega | (have h1 : List.length ([k] : List UInt8) = 1 := rfl; omega)))⟩), (fun _ => trivial), (fun hp => ⟨hp, hp⟩), (fun hp2 => (by first | exact hp2 | exact ⟨hp, hp2⟩))⟩ ?_
 exact gT (vc (bo ((decide ((List.length ([k] : List UInt8) : Int) ≤ (List.length s : Int))) && (decide (List.drop ((List.length s : Int) - (List.length ([k] : List UInt8) : Int)).toNat s = [k]))))) (by rw [suf_b])
theorem f91_body : Tryd.f91.body = some (.seq (.region 0 (rg Tryd.f91 0) false) (.seq (.seq (.region 1 (rg Tryd.f91 1) false) (.cond (.tmp 9) (.seq (.region 2 (rg Tryd.f91 2) false) (.ret)) (.skip))) (.seq (.region 3 (rg Tryd.f91 3) false) (.ret)))) := by kernel_rfl
set_option maxRecDepth 100000 in
set_option maxHeartbeats 8000000 in
theorem LCutSuf_c (k : UInt8) (s : Bytes) : Pure Tryd.prog 91 [tc (st s), tc (st [k])] (AV.tup [tc (st (cutS k s)), tc (bo (sufS k s))]) := by
 refine Pure.of_body Tryd.func91 f91_body (by kernel_rfl) Tryd.ntmps91 (by kernel_rfl) (by kernel_rfl) ?_
 refine AMx.str 0 (b := s) rfl (fun hls => ?_)
 simp only [maxLen] at hls
 refine gS [] [] 18 [(0, vc (st s)), (1, vc (st [k]))] [] trivial ?_
 refine gQ ?_
 refine gS [(2, CE.call [] [] (vc (bo (sufS k s))) [])] [Spec Tryd.prog 94 [tc (st s), tc (st [k])] (ofH []) (vc (bo (sufS k s))) (ofH [])] 18 [(0, vc (st s)), (1, vc (st [k])), (9, vc (bo (!(sufS k s))))] [] (HasSuf_c k s) ?_
 refine gB (!(sufS k s)) (fun hc1 => ?_) fun hc1 => ?_
 ·
  try simp only [xT, xF, xN, xM] at hc1
  refine gS [] [] 18 [(4, vc (st s)), (5, vc (bo false))] [] trivial ?_
  exact gT (AV.tup [tc (st s), tc (bo false)]) (by first | rw [cut_n hc1, hc1] | rw [cut_y hc1, hc1])
 ·
  try simp only [xT, xF, xN, xM] at hc1
  refine AMx.skip ?_
  refine gS [] [InR .i64 ((List.length s : Int) - (List.length ([k] : List UInt8) : Int)), 0 ≤ (List.length s : Int) - (List.length ([k] : List UInt8) : Int), (List.length s : Int) - (List.length ([k] : List UInt8) : Int) ≤ List.length s] 18 [(4, vc (st (List.take ((List.length s : Int) - (List.length ([k] : List UInt8) : Int)).toNat s))), (5, vc (bo true))] [] ⟨(show InR .i64 ((List.length s : Int) - (List.length ([k] : List UInt8) : Int)) from (inR64 (by first | omega | (have h1 : List.length ([k] : List UInt8) = 1 := rfl; have h2 := suf_len hc1; omega)) (by first | omega | (have h1 : List.length ([k] : List UInt8) = 1 := rfl; have h2 := suf_len hc1; omega)))), (show 0 ≤ (List.length s : Int) - (List.length ([k] : List UInt8) : Int) from (by first | omega | (have h1 : List.length ([k] : List UInt8) = 1 := rfl; have h2 := suf_len hc1; omega))), (show (List.length s : Int) - (List.length ([k] : List UInt8) : Int) ≤ List.length s from (by first | omega | (have h1 : List.length ([k] : List UInt8) = 1 := rfl; have h2 := suf_len hc1; omega)))⟩ ?_
  exact gT (AV.tup [tc (st (List.take ((List.length s : Int) - (List.length ([k] : List UInt8) : Int)).toNat s)), tc (bo true)]) (by first | rw [cut_n hc1, hc1] | rw [cut_y hc1, hc1])
theorem f85_body : Tryd.f85.body = some (.seq (.region 0 (rg Tryd.f85 0) false) (.seq (.region 1 (rg Tryd.f85 1) false) (.ret))) := by kernel_rfl
set_option maxRecDepth 100000 in
set_option maxHeartbeats 8000000 in
theorem CutSuf_c (k : UInt8) (s : Bytes) : Pure Tryd.prog 85 [tc (st s), tc (st [k])] (AV.tup [tc (st (cutS k s)), tc (bo (sufS k s))]) := by
 refine Pure.of_body Tryd.func85 f85_body (by kernel_rfl) Tryd.ntmps85 (by kernel_rfl) (by kernel_rfl) ?_
 refine AMx.str 0 (b := s) rfl (fun hls => ?_)
 simp only [maxLen] at hls
 refine gS [] [] 11 [(0, vc (st s)), (1, vc (st [k]))] [] trivial ?_
 refine gS [(2, CE.call [] [] (AV.tup [tc (st (cutS k s)), tc (bo (sufS k s))]) [])] [Spec Tryd.prog 91 [tc (st s), tc (st [k])] (ofH []) (AV.tup [tc (st (cutS k s)), tc (bo (sufS k s))]) (ofH [])] 11 [(4, vc (st (cutS k s))), (5, vc (bo (sufS k s)))] [] (LCutSuf_c k s) ?_
 exact gT (AV.tup [tc (st (cutS k s)), tc (bo (sufS k s))]) rfl
theorem f61_body : Tryd.f61.body = some (.seq (.region 0 (rg Tryd.f61 0) false) (.seq (.region 1 (rg Tryd.f61 1) false) (.ret))) := by kernel_rfl
set_option maxRecDepth 100000 in
set_option maxHeartbeats 8000000 in
theorem Contains_c (k : UInt8) (s : Bytes) : Pure Tryd.prog 61 [tc (st s), tc (st [k])] (vc (bo (decide (0 ≤ Go.Lib.indexByte s k)))) := by
 refine Pure.of_body Tryd.func61 f61_body (by kernel_rfl) Tryd.ntmps61 (by kernel_rfl) (by kernel_rfl) ?_
 refine gS [] [] 9 [(0, vc (st s)), (1, vc (st [k]))] [] trivial ?_
 refine gS [(2, CE.call [] [] (vc (i6 (Go.Lib.indexByte s k))) [])] [Spec Tryd.prog 72 [tc (st s), tc (st [k])] (ofH []) (vc (i6 (Go.Lib.indexByte s k))) (ofH [])] 9 [(4, vc (bo (decide (0 ≤ Go.Lib.indexByte s k))))] [] (AL.Sep.Index_c k s) ?_
 exact gT (vc (bo (decide (0 ≤ Go.Lib.indexByte s k)))) rfl
theorem f77_body : Tryd.f77.body = some (.seq (.region 0 (rg Tryd.f77 0) false) (.seq (.region 1 (rg Tryd.f77 1) false) (.seq (.region 2 (rg Tryd.f77 2) false) (.seq (.region 3 (rg Tryd.f77 3) false) (.ret))))) := by kernel_rfl
set_option maxRecDepth 100000 in
set_option maxHeartbeats 8000000 in
theorem rowOf_c (s : Bytes) : PureX Tryd.prog 77 [tc (st s)] (AV.t (TV.agg [.s (i6 ((rowW s).1)), .s (bo ((rowW s).2.1)), .s (bo ((rowW s).2.2))])) (rowOk s) := by
 refine PureX.of_body Tryd.func77 f77_body (by kernel_rfl) Tryd.ntmps77 (by kernel_rfl) (by kernel_rfl) ?_
 refine gS [] [] 20 [(0, vc (st s)), (2, vp 2 0)] [(2, AObj.row [.s (i6 0), .s (bo false), .s (bo false)])] trivial ?_
 refine gS [(1, CE.call [] [] (AV.tup [tc (st (cutS 35 s)), tc (bo (sufS 35 s))]) [])] [Spec Tryd.prog 85 [tc (st s), tc (st [35])] (ofH []) (AV.tup [tc (st (cutS 35 s)), tc (bo (sufS 35 s))]) (ofH [])] 20 [(0, vc (st (cutS 35 s))), (2, vp 2 0), (3, vc (bo (sufS 35 s)))] [(2, AObj.row [.s (i6 0), .s (bo false), .s (bo false)])] (CutSuf_c 35 s) ?_
 refine gS [(1, CE.call [] [] (AV.tup [tc (st (cutS 33 (cutS 35 s))), tc (bo (sufS 33 (cutS 35 s)))]) [])] [Spec Tryd.prog 85 [tc (st (cutS 35 s)), tc (st [33])] (ofH []) (AV.tup [tc (st (cutS 33 (cutS 35 s))), tc (bo (sufS 33 (cutS 35 s)))]) (ofH [])] 20 [(0, vc (st (cutS 33 (cutS 35 s)))), (2, vp 2 0), (3, vc (bo (sufS 35 s))), (4, vc (bo (sufS 33 (cutS 35 s))))] [(2, AObj.row [.s (i6 0), .s (bo false), .s (bo false)])] (CutSuf_c 33 (cutS 35 s)) ?_
 refine gSx [(1, CE.call [] [] (vc (i6 (scanN (cutS 33 (cutS 35 s))))) [])] [(1, 0 ≤ scanN (cutS 33 (cutS 35 s)))] [PureX Tryd.prog 43 [tc (st (cutS 33 (cutS 35 s)))] (vc (i6 (scanN (cutS 33 (cutS 35 s))))) (0 ≤ scanN (cutS 33 (cutS 35 s)))] 20 [(2, vp 2 0)] [(2, AObj.row [.s (i6 (scanN (cutS 33 (cutS 35 s)))), .s (bo (sufS 33 (cutS 35 s))), .s (bo (sufS 35 s))])] (num_c (cutS 33 (cutS 35 s))) (fun hok => (show (0 ≤ scanN (cutS 33 (cutS 35 s))) by exact hok)) (fun hx1 => ?_)
 replace hx1 : (0 ≤ scanN (cutS 33 (cutS 35 s))) := hx1
 exact gTx (by exact hx1) (AV.t (TV.agg [.s (i6 (scanN (cutS 33 (cutS 35 s)))), .s (bo (sufS 33 (cutS 35 s))), .s (bo (sufS 35 s))])) rfl
end AL.Reply
