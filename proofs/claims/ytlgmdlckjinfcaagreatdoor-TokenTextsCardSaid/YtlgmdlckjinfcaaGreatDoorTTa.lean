/- The proof library and the contracts that the law reaches: joined by a program. No condition. -/
import Derived.Test.YtlgmdlckjinfcaaGreatDoorALd
import Derived.Deep.Slices
import Derived.WalkKit
import Derived.ProofKit
import Derived.OpenShut
import Derived.ShutString
import Derived.ChangeOld
import Derived.Below
import Derived.Carry
import Derived.Test.YtlgmdlckjinfcaaGreatDoorRows
import Derived.Sort.Grow
import Derived.Test.YtlgmdlckjinfcaaGreatDoorALc
import Derived.Lib.MapLaws
import Derived.Lib.Bytealg
import Derived.Sort.Walk0
import Derived.Lib.SlicesCompact
import Derived.Lib.Strings
import Derived.Shelf.Strings.Builder1
import Derived.Shelf.Strings.Builder2
import Derived.Shelf.Strings.OnBuilder
import Derived.Shelf.Small.Bits
import Derived.Shelf.Small.Wraps
import Derived.Shelf.Strings.BuilderF
import Derived.Shelf.Strings.BuilderK
import Derived.Shelf.Strings.BuilderRune
import Derived.Shelf.Utf8.RuneCount
import Derived.Shelf.Strconv.Itoa0
import Derived.Shelf.Strings.Search1
import Derived.Shelf.Strings.Search2
import Derived.Shelf.Strings.Search3
import Derived.Shelf.Strings.Cut
import Derived.Shelf.Strings.Count
import Derived.Shelf.LaysM
import Derived.Shelf.Strings.Shaped
import Derived.Shelf.Sort.Plain
import Derived.Shelf.Strings.Prefix
import Derived.Shelf.Strings.Split
import Derived.Shelf.Strings.SplitShaped
import Derived.Shelf.Unicode.Decode
import Derived.Shelf.Strings.RuneCount
import Derived.Shelf.Strings.Explode
import Derived.Shelf.Unicode.DecodeSlow
import Derived.Shelf.Unicode.DecodeAny
import Derived.Shelf.Slices.Turned
import Derived.Shelf.Slices.In.SortNone
import Derived.Test.YtlgmdlckjinfcaaGreatDoorProg
import Derived.Lib.OthersKept
import Derived.Lib.RuneBytes
import Derived.BigCall
import Derived.JoinedOf
import Derived.Lib.LaidU8
import Derived.LaidMore
import Derived.SevenTiedAt
import Derived.Lay
import Derived.Test.YtlgmdlckjinfcaaGreatDoorCards
import Derived.Test.YtlgmdlckjinfcaaGreatDoorTie
namespace AL
open Go Go.RowKit
set_option linter.unusedVariables false
set_option linter.unusedSimpArgs false
abbrev Iw (w : World) (b : Nat) : Prop := b < w.heap.size
def Reads (P : Program) (t : TypeId) (α : Type) (row : α → Nat → SC) : Prop :=
  ∀ {H : Type} {enc : TypeId × Value → H} {w : World} {spare : Nat → Bool} {held : Bool} {fuel : Nat} {cs : List Value} {x : DataW H × List MemPlace},
    DataW.trod enc P w 0 spare held fuel t cs = some x → ∃ a : α, cs.length = P.cellsOf t ∧ ∀ (i : Nat) (v : Value), cs[i]? = some v → MS (Iw w) w (row a i) v
theorem InR_of_wf {k : IntKind} {n : Int} (h : (Lit.int k n).wf = true) : InR k n := by
  simpa [Lit.wf, InR] using h
theorem one_cell {cs : List Value} {u : Value} {p : Value → Prop} (h : cs = [u]) (hp : p u) : ∀ (i : Nat) (v : Value), cs[i]? = some v → p v := by
  intro i v hi
  subst h
  cases i with
  | zero => simp at hi; subst hi; exact hp
  | succ i => simp at hi
theorem Reads.int {P : Program} {t : TypeId} {k : IntKind} (ht : P.underlying t = some (.int k)) (hc : P.cellsOf t = 1) : Reads P t Int (fun n _ => .int k n) := by
  intro H enc w spare held fuel cs x h
  obtain ⟨n, rfl, _, hw⟩ := DataW.trod_int ht h
  exact ⟨n, by rw [hc]; rfl, one_cell rfl ⟨rfl, InR_of_wf hw⟩⟩
theorem Reads.bool {P : Program} {t : TypeId} (ht : P.underlying t = some .bool) (hc : P.cellsOf t = 1) : Reads P t Bool (fun b _ => .bool b) := by
  intro H enc w spare held fuel cs x h
  obtain ⟨n, rfl, _⟩ := DataW.trod_bool ht h
  exact ⟨n, by rw [hc]; rfl, one_cell rfl rfl⟩
theorem ba_bytes (s : ByteArray) : ba s.data.toList = s := by
  cases s; rfl
theorem Reads.str {P : Program} {t : TypeId} (ht : P.underlying t = some .string) (hc : P.cellsOf t = 1) : Reads P t Bytes (fun b _ => .str b) := by
  intro H enc w spare held fuel cs x h
  obtain ⟨s, rfl, _, hs⟩ := DataW.trod_string ht h
  exact ⟨s.data.toList, by rw [hc]; rfl, one_cell rfl ⟨by rw [ba_bytes], by simpa using hs⟩⟩
theorem cell_lt {w : World} {a : Addr} {v : Value} (h : w.cell? a = some v) : a.block < w.heap.size := by
  unfold World.cell? at h
  split at h
  · rename_i e
    exact (Array.getElem?_eq_some_iff.1 e).1
  · cases h
theorem Reads.slice {P : Program} {t e : TypeId} {α : Type} {row : α → Nat → SC} (d : α) (hr : Reads P e α row) (ht : P.underlying t = some (.slice e)) (hc : P.cellsOf t = 1) {k : Nat} (hk : P.cellsOf e = k) (h0 : 0 < k) :
    Reads P t (List α) (fun l _ => .sl k α d row l) := by
  intro H enc w spare held fuel cs x h
  rcases Go.Deep.open_slice ht h with ⟨rfl, _⟩ | ⟨a, len, cap, m, n, D, Pl, rfl, _, hl, hm, hmm, _, hx⟩
  · refine ⟨[], by rw [hc]; rfl, one_cell rfl ⟨none, 0, rfl, Nat.le_refl _, Nat.zero_le _, .inl ⟨rfl, fun _ => rfl⟩⟩⟩
  · have hlm : len ≤ m := by rw [hmm]; split <;> omega
    have hel : ∀ i, i < len → ∃ y : α, ∀ j, j < k → ∃ u, w.cell? ((a.add (i * k)).add j) = some u ∧ MS (Iw w) w (row y j) u := by
      intro i hi
      obtain ⟨cs', h1, h2⟩ := hx i (by omega)
      rw [hk] at h1
      obtain ⟨_, g2, g3⟩ := World.cells?_some h1
      obtain ⟨y, q1, q2⟩ := hr h2
      refine ⟨y, fun j hj => ?_⟩
      have : cs'[j]? = some cs'[j] := List.getElem?_eq_getElem (by omega)
      exact ⟨_, by rw [g3 j hj]; exact this, q2 j _ this⟩
    let f : Nat → α := fun i => if h : i < len then Classical.choose (hel i h) else d
    have hf : ∀ i, i < len → ∀ j, j < k → ∃ u, w.cell? ((a.add (i * k)).add j) = some u ∧ MS (Iw w) w (row (f i) j) u := by
      intro i hi
      have := Classical.choose_spec (hel i hi)
      simp only [f, dif_pos hi]
      exact this
    refine ⟨(List.range len).map f, by rw [hc]; rfl, one_cell rfl ?_⟩
    refine ⟨some a, cap, by simp, by simpa using hl, hm, ?_⟩
    by_cases hl0 : len = 0
    · subst hl0; exact .inl ⟨rfl, fun h => by cases h⟩
    · right
      obtain ⟨u, hu, _⟩ := hf 0 (by omega) 0 h0
      have hu0 : w.cell? a = some u := by simpa [Addr.add] using hu
      obtain ⟨b, off, spot⟩ := a
      have hspot : spot = none := World.cell?_spot hu0
      subst hspot
      refine ⟨b, off, rfl, cell_lt hu0, fun j x hx i hi => ?_⟩
      have hj : j < len := by
        have := (List.getElem?_eq_some_iff.1 hx).1
        simpa using this
      rw [List.getElem?_map, List.getElem?_range hj] at hx
      simp only [Option.map_some, Option.some.injEq] at hx
      subst hx
      obtain ⟨u', h1, h2⟩ := hf j hj i hi
      rw [add_mk, add_mk] at h1
      exact ⟨u', h1, h2⟩
def ReadsF (P : Program) (fl : List Field) (off : Nat) (α : Type) (row : α → Nat → SC) (n : Nat) : Prop :=
  ∀ {H : Type} {enc : TypeId × Value → H} {w : World} {spare : Nat → Bool} {held : Bool} {fuel : Nat} {cs : List Value}, (∀ f ∈ fl, ∃ x, DataW.trod enc P w 0 spare held fuel f.type ((cs.drop f.offset).take (P.cellsOf f.type)) = some x) →
    ∃ a : α, ∀ (i : Nat) (v : Value), i < n → cs[off + i]? = some v → MS (Iw w) w (row a i) v
theorem ReadsF.nil {P : Program} {off : Nat} : ReadsF P [] off Unit (fun _ _ => .any) 0 := by
  intro H enc w spare held fuel cs h
  exact ⟨(), fun i v hi => by omega⟩
theorem ReadsF.cons {P : Program} {f : Field} {fl : List Field} {off k n : Nat} {α β : Type} {row : α → Nat → SC} {row' : β → Nat → SC} (h : Reads P f.type α row) (hk : P.cellsOf f.type = k) (ho : f.offset = off) (hf : ReadsF P fl (off + k) β row' n) :
    ReadsF P (f :: fl) off (α × β) (fun x i => if i < k then row x.1 i else row' x.2 (i - k)) (k + n) := by
  intro H enc w spare held fuel cs hx
  obtain ⟨x, h1⟩ := hx f (List.mem_cons_self ..)
  obtain ⟨a, ha, hb⟩ := h h1
  obtain ⟨b, hb'⟩ := hf fun g hg => hx g (List.mem_cons_of_mem _ hg)
  refine ⟨(a, b), fun i v hi hv => ?_⟩
  by_cases hik : i < k
  · simp only [if_pos hik]
    refine hb i v ?_
    rw [List.getElem?_take_of_lt (by rw [hk]; exact hik), List.getElem?_drop, ho]
    exact hv
  · simp only [if_neg hik]
    refine hb' (i - k) v (by omega) ?_
    rw [show off + k + (i - k) = off + i by omega]
    exact hv
theorem Reads.struct {P : Program} {t : TypeId} {fs : Array Field} {α β : Type} {row : α → Nat → SC} {n : Nat} {row0 : β → Nat → SC} (ht : P.underlying t = some (.struct fs)) (hc : P.cellsOf t = n) (hf : ReadsF P fs.toList 0 α row n) (g : α → β)
    (hg : ∀ a i, i < n → row0 (g a) i = row a i) : Reads P t β row0 := by
  intro H enc w spare held fuel cs x h
  obtain ⟨xs, m, _, _, hl, hlen, hfs⟩ := DataW.trod_struct ht h
  obtain ⟨a, ha⟩ := hf (enc := enc) (w := w) (spare := spare) (held := held) (fuel := m) (cs := cs) fun f hf => by
    obtain ⟨i, hi⟩ := List.getElem?_of_mem hf
    have hi' : fs[i]? = some f := by simpa using hi
    have := hfs i f hi'
    have hlt : i < xs.length := by rw [hlen]; exact (Array.getElem?_eq_some_iff.1 hi').1
    exact ⟨xs[i], by rw [this, List.getElem?_eq_getElem hlt]⟩
  refine ⟨g a, hl, fun i v hi => ?_⟩
  have hin : i < n := by rw [← hc, ← hl]; exact (List.getElem?_eq_some_iff.1 hi).1
  rw [hg a i hin]
  exact ha i v hin (by rw [Nat.zero_add]; exact hi)
theorem Reads.arg {P : Program} {t : TypeId} {α : Type} {row : α → Nat → SC} (hr : Reads P t α row) {H : Type} {enc : TypeId × Value → H} {w : World} {spare : Nat → Bool} {held : Bool} {v : Value} {d : DataW H} {ps : List MemPlace}
    (h : DataW.Trod enc P w 0 spare held t v d ps) (hv : v.cells.toList = [v]) : ∃ a : α, MS (Iw w) w (row a 0) v := by
  obtain ⟨fuel, hf⟩ := h
  obtain ⟨a, _, h2⟩ := hr hf
  exact ⟨a, h2 0 v (by rw [hv]; rfl)⟩
def Γw (w : World) : Ctx := ⟨Iw w, fun _ => 0, fun _ => undef⟩
theorem law_walk {P : Program} {f : FuncId} {args : List TV} {cargs : Array Value} {w : World} (h : Pure P f args (vc (bo true))) (hG : GlobOk (Iw w) w) (hm : MTs (Γw w) w args cargs.toList) :
    Calls P f cargs w fun e w' => e = .returned (.bool true) ∧ Below w.heap.size w w' := by
  refine (h.2 (Γw w) w cargs ⟨fun id ob h => (by cases h), fun id ob b h => (by cases h), fun id ob id' ob' b h => (by cases h), fun b hb => hb, hG⟩ hm).mono ?_
  rintro e w' ⟨v, Γ', rfl, hv, _, hg, _⟩
  obtain rfl : v = .bool true := hv
  exact ⟨rfl, hg.os, hg.tape, hg.output, hg.size, fun b hb => hg.keep b ⟨hb, fun id o h => (by cases h)⟩⟩
end AL
namespace AL
open Go Go.Proofs
set_option linter.unusedVariables false
theorem mixed : Tryz.prog.follows .mixedOrders = true := Tryz.checked.mixed
theorem own : ownKnob Tryz.prog.godebug = none := by kernel_rfl
theorem laidOut : laidOutB Tryz.prog = true := by kernel_rfl
end AL
namespace AL
open Go
set_option linter.unusedVariables false
end AL
namespace AL
open Go
set_option linter.unusedVariables false
theorem mcs_ofS {Γ : Ctx} {w : World} : ∀ (k : Nat) (f : Nat → SC) (vs : List Value), vs.length = k → (∀ i v, vs[i]? = some v → MS Γ.I w (f i) v) → MCs Γ w (ofS k f) vs := by
  intro k f vs hl h
  have key : ∀ (l : List Nat) (vs : List Value), vs.length = l.length → (∀ (i : Nat) (v : Value) (q : Nat), vs[i]? = some v → l[i]? = some q → MS Γ.I w (f q) v) → MCs Γ w (l.map fun i => AC.s (f i)) vs := by
    intro l
    induction l with
    | nil => intro vs hl _; cases vs with
      | nil => trivial
      | cons v vs => simp at hl
    | cons q l ih =>
      intro vs hl h
      cases vs with
      | nil => simp at hl
      | cons v vs => exact ⟨h 0 v q rfl rfl, ih vs (by simpa using hl) fun i u q' h1 h2 => h (i + 1) u q' h1 h2⟩
  refine key (List.range k) vs (by simpa using hl) fun i v q h1 h2 => ?_
  have hi : i < k := by
    have := (List.getElem?_eq_some_iff.1 h2).1
    simpa using this
  rw [List.getElem?_range hi] at h2
  cases h2
  exact h i v h1
theorem Reads.agg {P : Program} {t : TypeId} {α : Type} {row : α → Nat → SC} {k : Nat} (hr : Reads P t α row) (hk : P.cellsOf t = k) {H : Type} {enc : TypeId × Value → H} {w : World} {spare : Nat → Bool} {held : Bool} {cs : Array Value} {d : DataW H} {ps : List MemPlace}
    (h : DataW.Trod enc P w 0 spare held t (.agg cs) d ps) : ∃ a : α, MT (Γw w) w (.agg (ofS k (row a))) (.agg cs) := by
  obtain ⟨fuel, hf⟩ := h
  obtain ⟨a, h1, h2⟩ := hr hf
  exact ⟨a, cs, rfl, mcs_ofS k _ _ (by rw [← hk, ← h1]; rfl) h2⟩
theorem MCs.int {Γ : Ctx} {w : World} {k : IntKind} {n : Int} : ∀ {l : List AC} {vs : List Value} {i : Nat}, MCs Γ w l vs → l[i]? = some (.s (.int k n)) → InR k n
  | c :: l, v :: vs, 0, h, hi => by simp at hi; subst hi; exact h.1.2
  | c :: l, v :: vs, i + 1, h, hi => MCs.int h.2 (by simpa using hi)
  | [], [], i, _, hi => by simp at hi
theorem AMx.cell {P : Program} {R : Exit → AS → Prop} {k : List KI} {c : Code} {s : AS} (t : Nat) (i : Nat) {l : List AC} {ik n} (ht : s.reg t = .t (.agg l)) (hi : l[i]? = some (.s (.int ik n))) (h : InR ik n → AMx P R (.code c :: k) .normal s) : AMx P R (.code c :: k) .normal s :=
  AMx.learn _ (fun G Γ a w hC => by have := hC.regs t; rw [ht] at this; obtain ⟨cs, _, hm⟩ := this; exact hm.int hi) h
end AL
namespace AL
open Go
set_option linter.unusedVariables false
def AC.le (a b : AC) : Prop := ∀ Γ w v, MC Γ w a v → MC Γ w b v
def acsLe : List AC → List AC → Prop
  | [], [] => True
  | a :: l, b :: m => AC.le a b ∧ acsLe l m
  | _, _ => False
def TV.le (a b : TV) : Prop := ∀ Γ w v, MT Γ w a v → MT Γ w b v
def tvsLe : List TV → List TV → Prop
  | [], [] => True
  | a :: l, b :: m => TV.le a b ∧ tvsLe l m
  | _, _ => False
def AV.le (a b : AV) : Prop := ∀ Γ obj w v, MV Γ obj w a v → MV Γ obj w b v
theorem AC.le_rfl {a : AC} : AC.le a a := fun _ _ _ h => h
theorem TV.le_rfl {a : TV} : TV.le a a := fun _ _ _ h => h
theorem AC.le_nil {k α d row} : AC.le (.s .nilsl) (.s (.sl k α d row [])) := by
  intro Γ w v h
  have h : v = .slice none 0 0 := h
  subst h
  exact ⟨none, 0, rfl, Nat.le_refl _, Nat.zero_le _, .inl ⟨rfl, fun _ => rfl⟩⟩
theorem AC.le_nn {c} : AC.le (.s (.nn c)) (.s c) := fun _ _ _ h => h.1
theorem acsLe.ok {Γ w} : ∀ {l m : List AC} {vs : List Value}, acsLe l m → MCs Γ w l vs → MCs Γ w m vs
  | [], [], _, _, h => h
  | _ :: _, _ :: _, _ :: _, h, h' => ⟨h.1 _ _ _ h'.1, acsLe.ok h.2 h'.2⟩
  | [], _ :: _, _, h, _ => h.elim
  | _ :: _, [], _, h, _ => h.elim
  | _ :: _, _ :: _, [], _, h => h.elim
theorem TV.le_c {a b : AC} (h : AC.le a b) : TV.le (.c a) (.c b) := fun Γ w v hv => h Γ w v hv
theorem TV.le_agg {l m : List AC} (h : acsLe l m) : TV.le (.agg l) (.agg m) := fun Γ w v ⟨cs, e, hm⟩ => ⟨cs, e, h.ok hm⟩
theorem tvsLe.ok {Γ w} : ∀ {l m : List TV} {vs : List Value}, tvsLe l m → MTs Γ w l vs → MTs Γ w m vs
  | [], [], _, _, h => h
  | _ :: _, _ :: _, _ :: _, h, h' => ⟨h.1 _ _ _ h'.1, tvsLe.ok h.2 h'.2⟩
  | [], _ :: _, _, h, _ => h.elim
  | _ :: _, [], _, h, _ => h.elim
  | _ :: _, _ :: _, [], _, h => h.elim
theorem AV.le_t {a b : TV} (h : TV.le a b) : AV.le (.t a) (.t b) := fun Γ obj w v hv => h Γ w v hv
theorem Spec.weak {P : Program} {f : FuncId} {args args' : List TV} {H H' : Nat → Option AObj} {res : AV} (h : tvsLe args args') (hs : Spec P f args' H res H') : Spec P f args H res H' :=
  ⟨hs.1, fun Γ w cargs hh hm => hs.2 Γ w cargs hh (h.ok hm)⟩
theorem ent_weak {s : AS} (t : Nat) {v v' : AV} (ht : s.reg t = v) (h : AV.le v v') : s.ent (s.set (some t) v') := by
  intro G Γ a w hC
  refine ⟨Γ, hC.size, hC.defers, fun t' => ?_, hC.heap, hC.g, hC.ids⟩
  simp only [AS.set]
  by_cases hx : t' = t
  · subst hx
    rw [Nat.beq_refl]
    have := hC.regs t'
    rw [ht] at this
    exact h _ _ _ _ this
  · rw [beq_false hx]; exact hC.regs t'
theorem ent_row {s : AS} (id : Nat) {l m : List AC} (ho : s.obj id = some (.row l)) (h : acsLe l m) : s.ent ⟨s.n, s.reg, fun j => bif Nat.beq j id then some (.row m) else s.obj j⟩ := by
  intro G Γ a w hC
  have key : ∀ j o, (bif Nat.beq j id then some (.row m) else s.obj j) = some o → ∃ o', s.obj j = some o' ∧ o'.width = o.width ∧ (∀ b, fp Γ j o b → fp Γ j o' b) ∧ (MO Γ w j o' → MO Γ w j o) := by
    intro j o hj
    by_cases hx : j = id
    · subst hx
      rw [Nat.beq_refl] at hj
      cases hj
      refine ⟨_, ho, rfl, fun b hb => hb, ?_⟩
      rintro ⟨cs, T, h1, h2⟩
      exact ⟨cs, T, h1, h.ok h2⟩
    · rw [beq_false hx] at hj
      exact ⟨o, hj, rfl, fun b hb => hb, fun h => h⟩
  refine ⟨Γ, hC.size, hC.defers, fun t => ?_, ⟨fun j o hj => ?_, fun j o b hj hb => ?_, fun j o j' o' b hj hj' hb hb' => ?_, hC.heap.ilt, hC.heap.glob⟩, ⟨hC.g.os, hC.g.tape, hC.g.output, hC.g.size, hC.g.prlt, hC.g.keep, hC.g.sub, hC.g.bak, fun j o b hj hb => ?_⟩, hC.ids⟩
  · refine MV.ext (D := fun _ => False) ⟨fun b hb => hb, fun b hb => rfl, fun _ _ => ⟨rfl, rfl⟩⟩ (fun j o _ hj => ?_) (fun d hd => hd.elim) (hC.regs t)
    obtain ⟨o', h1, h2, _⟩ := key j o hj
    exact ⟨o', h1, h2.symm⟩
  · obtain ⟨o', h1, _, _, h4⟩ := key j o hj
    exact h4 (hC.heap.objs j o' h1)
  · obtain ⟨o', h1, _, h3, _⟩ := key j o hj
    exact hC.heap.lt j o' b h1 (h3 b hb)
  · obtain ⟨o1, h1, _, h3, _⟩ := key j o hj
    obtain ⟨o2, g1, _, g3, _⟩ := key j' o' hj'
    exact hC.heap.inj j o1 j' o2 b h1 g1 (h3 b hb) (g3 b hb')
  · obtain ⟨o', h1, _, h3, _⟩ := key j o hj
    exact hC.g.own j o' b h1 (h3 b hb)
section
variable {P : Program} {R : Exit → AS → Prop} {K : List KI} {s : AS}
theorem AMx.isnil {c : Code} (t : Nat) {k : Nat} {α : Type} {d : α} {row : α → Nat → SC} {l : List α} (ht : s.reg t = vc (.sl k α d row l)) (h1 : l = [] → AMx P R (.code c :: K) .normal (s.set (some t) (vc .nilsl)))
    (h2 : AMx P R (.code c :: K) .normal (s.set (some t) (vc (.nn (.sl k α d row l))))) : AMx P R (.code c :: K) .normal s := by
  intro G Γ a w hC
  have hv := hC.regs t
  rw [ht] at hv
  have hv' : MS Γ.I w (.sl k α d row l) (a.tmps.getD t undef) := hv
  obtain ⟨ad, cap, e, e1, e2, e3⟩ := hv
  have mk : ∀ v', MV Γ s.obj w v' (a.tmps.getD t undef) → Conc G Γ (s.set (some t) v') a w := fun v' hv' => by
    refine ⟨hC.size, hC.defers, fun t' => ?_, hC.heap, hC.g, hC.ids⟩
    simp only [AS.set]
    by_cases hx : t' = t
    · subst hx; rw [Nat.beq_refl]; exact hv'
    · rw [beq_false hx]; exact hC.regs t'
  cases ad with
  | none =>
    have hl : l = [] ∧ cap = 0 := by
      rcases e3 with ⟨h, h'⟩ | ⟨b, off, h, _⟩
      · exact ⟨h, h' rfl⟩
      · cases h
    obtain ⟨rfl, rfl⟩ := hl
    exact h1 rfl G Γ a w (mk _ e)
  | some ad => exact h2 G Γ a w (mk _ ⟨hv', ad, _, _, e⟩)
end
theorem MCs.len {Γ : Ctx} {w : World} {k : Nat} {α : Type} {d : α} {row : α → Nat → SC} {m : List α} : ∀ {l : List AC} {vs : List Value} {i : Nat}, MCs Γ w l vs → l[i]? = some (.s (.sl k α d row m)) → m.length ≤ maxLen
  | c :: l, v :: vs, 0, h, hi => by
    simp at hi; subst hi
    obtain ⟨a, cap, _, h1, h2, _⟩ := (show MS Γ.I w (.sl k α d row m) v from h.1)
    omega
  | c :: l, v :: vs, i + 1, h, hi => MCs.len h.2 (by simpa using hi)
  | [], [], i, _, hi => by simp at hi
section
variable {P : Program} {R : Exit → AS → Prop} {K : List KI} {s : AS}
end
def isGrow : AObj → Bool
  | .grow .. => true
  | _ => false
def RetO (P : Program) (fn : Func) (o : AObj) (e : Exit) (s : AS) : Prop :=
  (e = .ret ∨ e = .normal) ∧ ∃ id o', evRes P fn s = some (.t (.c (.own id))) ∧ s.obj id = some o' ∧ o' = o
theorem Own.of_body {P : Program} {f : FuncId} {fn : Func} {c : Code} {args : List TV} {o : AObj} {n : Nat} (hf : P.funcs[f]? = some fn) (hb : fn.body = some c) (hn : (fn.name == "runtime.NumGoroutine") = false)
    (hnt : fn.ntmps = n) (hle : Nat.ble args.length n = true) (hg : isGrow o = true) (h : AMx P (RetO P fn o) [.code c] .normal (AS.lst n (argRegs 0 args) [])) (d : Nat) : Spec P f args H0 (vo d) (ofH [(d, o)]) := by
  refine ⟨⟨fn, hf, by rw [hb]; rfl, hn⟩, fun Γ w cargs hh hm => ?_⟩
  refine calls_of_wp hf hb ?_
  have hC := body_start (P := P) (H := []) hnt hle hh hm
  refine wp_mono (h _ _ _ _ hC) ?_
  rintro e a' w' ⟨s', Γ', ⟨he, id, _, hr, hid, rfl⟩, hC'⟩
  obtain ⟨v, h1, h2, h3⟩ := res_ok (P := P) (fn := fn) hC' hr
  rename_i o
  have hpost : a'.defers = [] ∧ ∃ v, (results fn a'.tmps).run P w' = Result.ok v w' ∧ ∃ v_1 Γ', Ending.returned v = .returned v_1 ∧ MV Γ' (ofH [(d, o)]) w' (vo d) v_1 ∧ HeapOk Γ' (ofH [(d, o)]) w' ∧ GOk ⟨w, prOf Γ (ofH []) w, Γ.I, Γ.ρ, Γ.η, []⟩ Γ' (ofH [(d, o)]) w' ∧ Agree (fun id => ofH [(d, o)] id ≠ none ∧ H0 id = none) Γ Γ' := by
    let Γ2 : Ctx := ⟨Γ'.I, fun j => bif Nat.beq j d then Γ'.ρ id else Γ.ρ j, fun j => bif Nat.beq j d then Γ'.η id else Γ.η j⟩
    have er : Γ2.ρ d = Γ'.ρ id := by show (bif Nat.beq d d then _ else _) = _; rw [Nat.beq_refl]; rfl
    have ee : Γ2.η d = Γ'.η id := by show (bif Nat.beq d d then _ else _) = _; rw [Nat.beq_refl]; rfl
    have hfp : ∀ b, fp Γ2 d o b → fp Γ' id o b := fun b hb => by
      unfold fp at hb ⊢
      rw [er, ee] at hb
      exact hb
    refine ⟨hC'.defers, v, h1, v, Γ2, rfl, ?_, ⟨fun j o' hj => ?_, fun j o' b hj hb => ?_, fun j o1 j' o2 b hj hj' _ _ => ?_, hC'.heap.ilt, hC'.heap.glob⟩,
      ⟨hC'.g.os, hC'.g.tape, hC'.g.output, hC'.g.size, hC'.g.prlt, hC'.g.keep, hC'.g.sub, hC'.g.bak, fun j o' b hj hb => ?_⟩, fun j hj => ?_⟩
    · have h2' : v = Γ'.η id ∧ v.oneCell' = true := h2
      exact ⟨h2'.1.trans ee.symm, h2'.2⟩
    · obtain ⟨rfl, rfl⟩ := ofH_one.1 hj
      have := hC'.heap.objs id _ hid
      cases o' with
      | grow T k α dd row l =>
        unfold MO at this ⊢
        rw [er, ee]
        exact this
      | _ => cases hg
    · obtain ⟨rfl, rfl⟩ := ofH_one.1 hj
      exact hC'.heap.lt id _ b hid (hfp b hb)
    · obtain ⟨rfl, _⟩ := ofH_one.1 hj
      obtain ⟨rfl, _⟩ := ofH_one.1 hj'
      rfl
    · obtain ⟨rfl, rfl⟩ := ofH_one.1 hj
      exact hC'.g.own id _ b hid (hfp b hb)
    · have : j ≠ d := fun e => hj ⟨by subst e; rw [ofH_one.2 ⟨rfl, rfl⟩]; simp, rfl⟩
      refine ⟨?_, ?_⟩
      · show (bif Nat.beq j d then _ else _) = _; rw [beq_false this]; rfl
      · show (bif Nat.beq j d then _ else _) = _; rw [beq_false this]; rfl
  rcases he with rfl | rfl
  · exact hpost
  · exact hpost
end AL
namespace AL
open Go
set_option linter.unusedVariables false
theorem MCs.set_own {Γ : Ctx} {w : World} {d : Nat} {post : List AC} : ∀ {pre : List AC} {vs : List Value}, Γ.η d = .slice none 0 0 → MCs Γ w (pre ++ .s .nilsl :: post) vs → MCs Γ w (pre ++ .own d :: post) vs
  | [], v :: vs, hη, h => by
    refine ⟨?_, h.2⟩
    have h1 : v = .slice none 0 0 := h.1
    subst h1
    exact ⟨hη.symm, rfl⟩
  | c :: pre, v :: vs, hη, h => ⟨h.1, MCs.set_own hη h.2⟩
  | [], [], _, h => h.elim
  | _ :: _, [], _, h => h.elim
theorem ent_adoptO {n : Nat} {L : List (Nat × AV)} {H : List (Nat × AObj)} (h d : Nat) (pre post : List AC) (T : TypeId) (k : Nat) (α : Type) (dd : α) (row : α → Nat → SC) (ho : ofH H h = some (.row (pre ++ .s .nilsl :: post)))
    (hd : Nat.blt d n = true) (hf : hasL d L = false) (hf' : hasO d H = false) :
    (AS.lst n L H).ent ⟨n, lkp L, fun j => bif Nat.beq j d then some (.grow T k α dd row []) else bif Nat.beq j h then some (.row (pre ++ .own d :: post)) else ofH H j⟩ := by
  intro G Γ a w hC
  obtain ⟨f1, f2⟩ := hasO_ok hf'
  let Γ' := mkΓ Γ d (Γ.ρ d) (.slice none 0 0)
  have hext : Ext (fun id => id = d) Γ w Γ' w := ⟨fun b hb => hb, fun b _ => rfl, mk_agree Γ d _ _⟩
  have hdh : h ≠ d := fun e => by subst e; rw [f1] at ho; cases ho
  have hobj : ∀ j o, (bif Nat.beq j d then some (AObj.grow T k α dd row []) else bif Nat.beq j h then some (.row (pre ++ .own d :: post)) else ofH H j) = some o →
      (j = d ∧ o = .grow T k α dd row []) ∨ (j ≠ d ∧ j = h ∧ o = .row (pre ++ .own d :: post)) ∨ (j ≠ d ∧ j ≠ h ∧ ofH H j = some o) := by
    intro j o hj
    by_cases h1 : j = d
    · subst h1; rw [Nat.beq_refl] at hj; cases hj; exact .inl ⟨rfl, rfl⟩
    · rw [beq_false h1] at hj
      by_cases h2 : j = h
      · subst h2; rw [Nat.beq_refl] at hj; cases hj; exact .inr (.inl ⟨h1, rfl, rfl⟩)
      · rw [beq_false h2] at hj; exact .inr (.inr ⟨h1, h2, hj⟩)
  have hfp : ∀ j o b, j ≠ d → fp Γ' j o b → fp Γ j o b := fun j o b hj h => (fp.ext (mk_agree Γ d (Γ.ρ d) (.slice none 0 0)) hj).1 h
  have hnf : ∀ b, ¬ fp Γ' d (.grow T k α dd row []) b := fun b h => by
    have := h.2
    simp only [Γ', mk_η] at this
    exact this rfl
  have hrow : ∀ b, fp Γ' h (.row (pre ++ .own d :: post)) b → fp Γ h (.row (pre ++ .s .nilsl :: post)) b := fun b hb => (fp.ext (mk_agree Γ d (Γ.ρ d) (.slice none 0 0)) hdh).1 (show fp Γ' h (.row (pre ++ .s .nilsl :: post)) b from hb)
  have hmo : MO Γ' w h (.row (pre ++ .s .nilsl :: post)) := MO.ext hext hdh (fun e he => by subst he; exact f2 h _ ho) (fun b _ => rfl) (hC.heap.objs h _ ho)
  have old : ∀ j o, (bif Nat.beq j d then some (AObj.grow T k α dd row []) else bif Nat.beq j h then some (.row (pre ++ .own d :: post)) else ofH H j) = some o → j ≠ d → ∃ o', ofH H j = some o' ∧ o'.width = o.width ∧ ∀ b, fp Γ' j o b → fp Γ j o' b := by
    intro j o hj hjd
    rcases hobj j o hj with ⟨h1, _⟩ | ⟨_, rfl, rfl⟩ | ⟨h1, h2, h3⟩
    · exact absurd h1 hjd
    · exact ⟨_, ho, rfl, hrow⟩
    · exact ⟨o, h3, rfl, fun b => hfp j o b h1⟩
  refine ⟨Γ', ⟨hC.size, hC.defers, fun u => ?_, ⟨fun j o hj => ?_, fun j o b hj hb => ?_, fun j o j' o' b hj hj' hb hb' => ?_, hC.heap.ilt, hC.heap.glob⟩, ⟨hC.g.os, hC.g.tape, hC.g.output, hC.g.size, hC.g.prlt, hC.g.keep, hC.g.sub, hC.g.bak, fun j o b hj hb => ?_⟩, fun i hi => ?_⟩⟩
  · refine MV.ext hext (fun j o hj ho' => ?_) (fun e he => by subst he; exact hasL_ok hf u) (hC.regs u)
    obtain ⟨o', h1, h2, _⟩ := old j o ho' hj
    exact ⟨o', h1, h2.symm⟩
  · rcases hobj j o hj with ⟨rfl, rfl⟩ | ⟨h1, rfl, rfl⟩ | ⟨h1, h2, h3⟩
    · exact .inl ⟨by simp only [Γ', mk_η], rfl⟩
    · obtain ⟨cs, T', q1, q2⟩ := hmo
      exact ⟨cs, T', q1, q2.set_own (by simp only [Γ', mk_η])⟩
    · exact MO.ext hext h1 (fun e he => by subst he; exact f2 j o h3) (fun b _ => rfl) (hC.heap.objs j o h3)
  · by_cases hjd : j = d
    · rcases hobj j o hj with ⟨rfl, rfl⟩ | ⟨h1, _⟩ | ⟨h1, _⟩
      · exact absurd hb (hnf b)
      · exact absurd hjd h1
      · exact absurd hjd h1
    · obtain ⟨o', h1, _, h3⟩ := old j o hj hjd
      exact hC.heap.lt j o' b h1 (h3 b hb)
  · by_cases hjd : j = d
    · rcases hobj j o hj with ⟨rfl, rfl⟩ | ⟨h1, _⟩ | ⟨h1, _⟩
      · exact absurd hb (hnf b)
      · exact absurd hjd h1
      · exact absurd hjd h1
    · by_cases hjd' : j' = d
      · rcases hobj j' o' hj' with ⟨rfl, rfl⟩ | ⟨h1, _⟩ | ⟨h1, _⟩
        · exact absurd hb' (hnf b)
        · exact absurd hjd' h1
        · exact absurd hjd' h1
      · obtain ⟨o1, h1, _, h3⟩ := old j o hj hjd
        obtain ⟨o2, g1, _, g3⟩ := old j' o' hj' hjd'
        exact hC.heap.inj j o1 j' o2 b h1 g1 (h3 b hb) (g3 b hb')
  · by_cases hjd : j = d
    · rcases hobj j o hj with ⟨rfl, rfl⟩ | ⟨h1, _⟩ | ⟨h1, _⟩
      · exact absurd hb (hnf b)
      · exact absurd hjd h1
      · exact absurd hjd h1
    · obtain ⟨o', h1, _, h3⟩ := old j o hj hjd
      exact hC.g.own j o' b h1 (h3 b hb)
  · have hdn := Nat.le_of_ble_eq_true hd
    obtain ⟨e1, e2⟩ := mk_agree Γ d (Γ.ρ d) (.slice none 0 0) i (by have : n ≤ i := hi; omega)
    show (mkΓ Γ d (Γ.ρ d) (.slice none 0 0)).ρ i = _ ∧ (mkΓ Γ d (Γ.ρ d) (.slice none 0 0)).η i = _
    rw [e1, e2]
    exact hC.ids i hi
end AL
namespace AL
open Go
set_option linter.unusedVariables false
theorem put_heap {α : Type} [Inhabited α] {enc : α → Value} {w : World} {n b : Nat} {d : Array α} {cur : Array Value} {T : TypeId} (h : w.heap[b]? = some (.cells cur T (0, 0))) :
    (Sort.putRow enc (Sort.ahead w n) b 0 d).heap[b]? = some (.cells (Sort.putCells enc 0 d cur) T (0, 0)) := by
  unfold Sort.putRow Sort.mapBlock
  simp only [Sort.ahead, Array.getElem?_modify, if_pos, h, Option.map_some]
  rfl
theorem put_other {α : Type} [Inhabited α] {enc : α → Value} {w : World} {n b k : Nat} {d : Array α} (h : k ≠ b) : (Sort.putRow enc (Sort.ahead w n) b 0 d).heap[k]? = w.heap[k]? := by
  unfold Sort.putRow Sort.mapBlock
  simp only [Sort.ahead, Array.getElem?_modify]
  rw [if_neg (Ne.symm h)]
theorem put_size {α : Type} [Inhabited α] {enc : α → Value} {w : World} {n b : Nat} {d : Array α} : (Sort.putRow enc (Sort.ahead w n) b 0 d).heap.size = w.heap.size := by
  unfold Sort.putRow Sort.mapBlock; simp [Sort.ahead]
theorem put_get {α : Type} [Inhabited α] {enc : α → Value} {l : List α} {cur : Array Value} {j : Nat} {x : α} (h : l[j]? = some x) (hj : j < cur.size) : (Sort.putCells enc 0 l.toArray cur)[j]? = some (enc x) := by
  have hl := (List.getElem?_eq_some_iff.1 h).1
  unfold Sort.putCells
  rw [Array.getElem?_mapIdx, Array.getElem?_eq_getElem hj, Option.map_some, if_pos ⟨Nat.zero_le _, by simpa using hl⟩, Nat.sub_zero]
  congr 2
  rw [getElem!_pos _ j (by simpa using hl)]
  have := (List.getElem?_eq_some_iff.1 h).2
  simpa using this
theorem put_csize {α : Type} [Inhabited α] {enc : α → Value} {d : Array α} {cur : Array Value} : (Sort.putCells enc 0 d cur).size = cur.size := by simp [Sort.putCells]
structure OneRow (α : Type) [Inhabited α] (row : α → Nat → SC) (enc : α → Value) (good : α → Prop) : Prop where
  ms : ∀ {I w x v}, MS I w (row x 0) v → v = enc x ∧ good x
  put : ∀ {I w x}, good x → MS I w (row x 0) (enc x)
section
variable {P : Program} {f : FuncId} {α : Type} [Inhabited α] {row : α → Nat → SC} {enc : α → Value} {good : α → Prop} {d : α} {T : TypeId} {l : List α}
theorem grow_holds (hr : OneRow α row enc good) {Γ : Ctx} {w : World} {cur : Array Value} {b : Nat} (hb : w.heap[b]? = some (.cells cur T (0, 0)))
    (hm : ∀ j x, l[j]? = some x → ∀ i, i < 1 → ∃ u, cur[j * 1 + i]? = some u ∧ MS Γ.I w (row x i) u) : Sort.Holds enc w b 0 l.toArray ∧ ∀ x ∈ l, good x := by
  constructor
  · intro j hj
    have hj : j < l.length := by simpa using hj
    obtain ⟨u, hu, hms⟩ := hm j l[j] (List.getElem?_eq_getElem hj) 0 (by omega)
    obtain ⟨rfl, _⟩ := hr.ms hms
    refine ⟨?_, ?_⟩
    · rw [Nat.zero_add, cell_of_heap hb]
      have e : j * 1 + 0 = j := by omega
      rw [e] at hu
      rw [hu, getElem!_pos _ j (by simpa using hj)]
      simp
    · unfold World.frozen?
      rw [hb]
      simp
  · intro x hx
    obtain ⟨j, hj⟩ := List.getElem?_of_mem hx
    obtain ⟨u, _, hms⟩ := hm j x hj 0 (by omega)
    exact (hr.ms hms).2
theorem Spec.inplace (hc : Callable P f) (hr : OneRow α row enc good) {l' : List α} (hlen : l'.length = l.length) (hmem : ∀ x ∈ l', x ∈ l)
    (hcon : ∀ b cap w, Sort.Holds enc w b 0 l.toArray → b < w.heap.size → Calls P f #[.slice (some ⟨b, 0, none⟩) l.length cap] w fun e w' => e = .returned (.tuple #[]) ∧ ∃ n os, w' = Sort.grow (Sort.putRow enc (Sort.ahead w n) b 0 l'.toArray) os)
    (hnil : l = [] → ∀ p cap w, Calls P f #[.slice p 0 cap] w fun e w' => e = .returned (.tuple #[]) ∧ w' = w) (id : Nat) :
    Spec P f [.c (.own id)] (ofH [(id, .grow T 1 α d row l)]) (.tup []) (ofH [(id, .grow T 1 α d row l')]) := by
  refine ⟨hc, fun Γ w cargs hh hm => ?_⟩
  obtain ⟨v, hv⟩ : ∃ v, cargs = #[v] := by
    have := hm.length
    rw [Array.length_toList] at this
    match cargs, this with
    | ⟨[v]⟩, _ => exact ⟨v, rfl⟩
  subst hv
  obtain ⟨⟨hv, _⟩, _⟩ := (show (v = Γ.η id ∧ v.oneCell' = true) ∧ True from hm)
  subst hv
  have ho := hh.objs id _ (ofH_one.2 ⟨rfl, rfl⟩)
  have done : ∀ w', w'.os = w.os → w'.tape = w.tape → w'.output = w.output → w.heap.size ≤ w'.heap.size → (∀ b, b < w.heap.size → ¬ fp Γ id (.grow T 1 α d row l) b → w'.heap[b]? = w.heap[b]?) → MO Γ w' id (.grow T 1 α d row l') →
      ∃ v Γ', Ending.returned (.tuple #[]) = .returned v ∧ MV Γ' (ofH [(id, .grow T 1 α d row l')]) w' (.tup []) v ∧ HeapOk Γ' (ofH [(id, .grow T 1 α d row l')]) w' ∧ GOk ⟨w, prOf Γ (ofH [(id, .grow T 1 α d row l)]) w, Γ.I, Γ.ρ, Γ.η, []⟩ Γ' (ofH [(id, .grow T 1 α d row l')]) w' ∧
        Agree (fun j => ofH [(id, .grow T 1 α d row l')] j ≠ none ∧ ofH [(id, .grow T 1 α d row l)] j = none) Γ Γ' := by
    intro w' h1 h2 h3 h4 h5 h6
    have hid := ofH_one.2 (⟨rfl, rfl⟩ : id = id ∧ AObj.grow T 1 α d row l = .grow T 1 α d row l)
    have hfp : ∀ b, fp Γ id (.grow T 1 α d row l') b → fp Γ id (.grow T 1 α d row l) b := fun b hb => hb
    refine ⟨_, Γ, rfl, ⟨#[], rfl, trivial⟩, ⟨fun j o hj => ?_, fun j o b hj hb => ?_, fun j o1 j' o2 b hj hj' _ _ => ?_, fun b hb => Nat.lt_of_lt_of_le (hh.ilt b hb) h4, hh.glob.mono (fun b hb => hb) fun b hb => h5 b (hh.ilt b hb) fun hf => (hh.lt id _ b hid hf).2 hb⟩,
      ⟨h1, h2, h3, h4, fun b hb => hb.1, fun b hb => h5 b hb.1 fun hf => hb.2 id _ hid hf, fun b hb => hb, fun b _ hb => hb, fun j o b hj hb hp => ?_⟩, fun _ _ => ⟨rfl, rfl⟩⟩
    · obtain ⟨rfl, rfl⟩ := ofH_one.1 hj; exact h6
    · obtain ⟨rfl, rfl⟩ := ofH_one.1 hj
      have := hh.lt j _ b hid (hfp b hb)
      exact ⟨Nat.lt_of_lt_of_le this.1 h4, this.2⟩
    · obtain ⟨rfl, _⟩ := ofH_one.1 hj; obtain ⟨rfl, _⟩ := ofH_one.1 hj'; rfl
    · obtain ⟨rfl, rfl⟩ := ofH_one.1 hj
      exact hp.2 j _ hid (hfp b hb)
  rcases ho with ⟨hη, hl⟩ | ⟨cap, cur, hη, hb, hlc, hcm, hcs, hmm⟩
  · rw [hη]
    have hl' : l' = [] := List.eq_nil_of_length_eq_zero (by rw [hlen, hl]; rfl)
    refine (hnil hl none 0 w).mono ?_
    rintro e w' ⟨rfl, rfl⟩
    exact done w' rfl rfl rfl (Nat.le_refl _) (fun b _ _ => rfl) (.inl ⟨hη, hl'⟩)
  · rw [hη]
    obtain ⟨h1, h2⟩ := grow_holds (T := T) hr hb hmm
    have hfid : fp Γ id (.grow T 1 α d row l) (Γ.ρ id) := ⟨rfl, by rw [hη]; simp⟩
    have hlt := fp_lt hh (ofH_one.2 ⟨rfl, rfl⟩) hfid
    refine (hcon (Γ.ρ id) cap w h1 hlt).mono ?_
    rintro e w' ⟨rfl, n, os, rfl⟩
    have hold : ∀ b, b < w.heap.size → (Sort.grow (Sort.putRow enc (Sort.ahead w n) (Γ.ρ id) 0 l'.toArray) os).heap[b]? = (Sort.putRow enc (Sort.ahead w n) (Γ.ρ id) 0 l'.toArray).heap[b]? := fun b hb => by
      show (_ ++ os)[b]? = _
      rw [Array.getElem?_append_left (by rw [put_size]; exact hb)]
    refine done _ rfl rfl rfl (by show _ ≤ (_ ++ os).size; rw [Array.size_append, put_size]; omega) (fun b hb hnf => ?_) (.inr ⟨cap, Sort.putCells enc 0 l'.toArray cur, by rw [hη, hlen], ?_, by rw [hlen]; exact hlc, hcm, by rw [put_csize]; exact hcs, fun j x hx i hi => ?_⟩)
    · rw [hold b hb, put_other fun e => hnf (by rw [e]; exact hfid)]
    · rw [hold _ hlt]; exact put_heap hb
    · obtain rfl : i = 0 := by omega
      have hjl := (List.getElem?_eq_some_iff.1 hx).1
      refine ⟨enc x, ?_, hr.put (h2 x (hmem x (List.mem_of_getElem? hx)))⟩
      rw [Nat.mul_one, Nat.add_zero]
      exact put_get hx (by rw [hcs]; omega)
end
theorem Pure.of_calls {P : Program} {f : FuncId} {args : List TV} {res : AV} (hc : Callable P f)
    (h : ∀ Γ w cargs, MTs Γ w args cargs.toList → Calls P f cargs w fun e w' => ∃ v, e = .returned v ∧ w' = w ∧ MV Γ H0 w res v) : Pure P f args res := by
  refine ⟨hc, fun Γ w cargs hh hm => (h Γ w cargs hm).mono ?_⟩
  rintro e w' ⟨v, rfl, rfl, hv⟩
  exact ⟨v, Γ, rfl, hv, hh, ⟨rfl, rfl, rfl, Nat.le_refl _, fun b hb => hb.1, fun b hb => rfl, fun b hb => hb, fun b _ hb => hb, fun j o b hj _ _ => by cases hj⟩, fun _ _ => ⟨rfl, rfl⟩⟩
theorem args2 {Γ : Ctx} {w : World} {a b : TV} {cargs : Array Value} (h : MTs Γ w [a, b] cargs.toList) : ∃ u v, cargs = #[u, v] ∧ MT Γ w a u ∧ MT Γ w b v := by
  have := h.length
  rw [Array.length_toList] at this
  match cargs, this, h with
  | ⟨[u, v]⟩, _, h => exact ⟨u, v, rfl, h.1, h.2.1⟩
end AL
namespace AL
open Go
set_option linter.unusedVariables false
theorem ent_regrow {s : AS} (id : Nat) {T : TypeId} {k : Nat} {α α2 : Type} {d : α} {d2 : α2} {row : α → Nat → SC} {row2 : α2 → Nat → SC} {l : List α} {l2 : List α2} (ho : s.obj id = some (.grow T k α d row l)) (hlen : l2.length = l.length)
    (h : ∀ (j : Nat) x y, l[j]? = some x → l2[j]? = some y → ∀ i, i < k → AC.le (.s (row x i)) (.s (row2 y i))) :
    s.ent ⟨s.n, s.reg, fun j => bif Nat.beq j id then some (.grow T k α2 d2 row2 l2) else s.obj j⟩ := by
  intro G Γ a w hC
  have key : ∀ j o, (bif Nat.beq j id then some (AObj.grow T k α2 d2 row2 l2) else s.obj j) = some o → ∃ o', s.obj j = some o' ∧ o'.width = o.width ∧ (∀ b, fp Γ j o b → fp Γ j o' b) ∧ (MO Γ w j o' → MO Γ w j o) := by
    intro j o hj
    by_cases hx : j = id
    · subst hx
      rw [Nat.beq_refl] at hj
      cases hj
      refine ⟨_, ho, rfl, fun b hb => hb, ?_⟩
      rintro (⟨h1, h2⟩ | ⟨cap, cur, h1, h2, h3, h4, h5, h6⟩)
      · exact .inl ⟨h1, List.eq_nil_of_length_eq_zero (by rw [hlen, h2]; rfl)⟩
      · refine .inr ⟨cap, cur, by rw [hlen]; exact h1, h2, by rw [hlen]; exact h3, h4, h5, fun i y hy c hc => ?_⟩
        have hi := (List.getElem?_eq_some_iff.1 hy).1
        rw [hlen] at hi
        obtain ⟨u, g1, g2⟩ := h6 i l[i] (List.getElem?_eq_getElem hi) c hc
        exact ⟨u, g1, h i l[i] y (List.getElem?_eq_getElem hi) hy c hc Γ w u g2⟩
    · rw [beq_false hx] at hj
      exact ⟨o, hj, rfl, fun b hb => hb, fun h => h⟩
  refine ⟨Γ, hC.size, hC.defers, fun t => ?_, ⟨fun j o hj => ?_, fun j o b hj hb => ?_, fun j o j' o' b hj hj' hb hb' => ?_, hC.heap.ilt, hC.heap.glob⟩, ⟨hC.g.os, hC.g.tape, hC.g.output, hC.g.size, hC.g.prlt, hC.g.keep, hC.g.sub, hC.g.bak, fun j o b hj hb => ?_⟩, hC.ids⟩
  · refine MV.ext (D := fun _ => False) ⟨fun b hb => hb, fun b hb => rfl, fun _ _ => ⟨rfl, rfl⟩⟩ (fun j o _ hj => ?_) (fun d hd => hd.elim) (hC.regs t)
    obtain ⟨o', h1, h2, _⟩ := key j o hj
    exact ⟨o', h1, h2.symm⟩
  · obtain ⟨o', h1, _, _, h4⟩ := key j o hj
    exact h4 (hC.heap.objs j o' h1)
  · obtain ⟨o', h1, _, h3, _⟩ := key j o hj
    exact hC.heap.lt j o' b h1 (h3 b hb)
  · obtain ⟨o1, h1, _, h3, _⟩ := key j o hj
    obtain ⟨o2, g1, _, g3, _⟩ := key j' o' hj'
    exact hC.heap.inj j o1 j' o2 b h1 g1 (h3 b hb) (g3 b hb')
  · obtain ⟨o', h1, _, h3, _⟩ := key j o hj
    exact hC.g.own j o' b h1 (h3 b hb)
end AL
namespace AL
open Go Go.RowKit
set_option linter.unusedVariables false
theorem HeapOk.below {Γ : Ctx} {w w' : World} (hh : HeapOk Γ H0 w) (hb : Below w.heap.size w w') : HeapOk Γ H0 w' :=
  ⟨fun _ _ h => (by cases h), fun _ _ _ h => (by cases h), fun _ _ _ _ _ h => (by cases h), fun b hi => Nat.lt_of_lt_of_le (hh.ilt b hi) hb.size, hh.glob.mono (fun b h => h) fun b hi => hb.block b (hh.ilt b hi)⟩
theorem Pure.of_below {P : Program} {f : FuncId} {args : List TV} {res : AV} (hc : Callable P f)
    (h : ∀ Γ w cargs, HeapOk Γ H0 w → MTs Γ w args cargs.toList → Calls P f cargs w fun e w' => ∃ v, e = .returned v ∧ Below w.heap.size w w' ∧ MV Γ H0 w' res v) : Pure P f args res := by
  refine ⟨hc, fun Γ w cargs hh hm => (h Γ w cargs hh hm).mono ?_⟩
  rintro e w' ⟨v, rfl, hb, hv⟩
  exact ⟨v, Γ, rfl, hv, hh.below hb, ⟨hb.os, hb.tape, hb.output, hb.size, fun b hb => hb.1, fun b hp => hb.block b hp.1, fun b hb => hb, fun b _ hb => hb, fun j o b hj _ _ => by cases hj⟩, fun _ _ => ⟨rfl, rfl⟩⟩
theorem Pure.below {P : Program} {f : FuncId} {args : List TV} {res : AV} (h : Pure P f args res) {Γ : Ctx} {w : World} {cargs : Array Value} (hh : HeapOk Γ H0 w) (hm : MTs Γ w args cargs.toList) :
    Calls P f cargs w fun e w' => ∃ v Γ', e = .returned v ∧ MV Γ' H0 w' res v ∧ Below w.heap.size w w' := by
  refine (h.2 Γ w cargs hh hm).mono ?_
  rintro e w' ⟨v, Γ', rfl, hv, _, hg, _⟩
  exact ⟨v, Γ', rfl, hv, hg.os, hg.tape, hg.output, hg.size, fun b hb => hg.keep b ⟨hb, fun id o h => (by cases h)⟩⟩
theorem args1 {Γ : Ctx} {w : World} {a : TV} {cargs : Array Value} (h : MTs Γ w [a] cargs.toList) : ∃ u, cargs = #[u] ∧ MT Γ w a u := by
  have := h.length
  rw [Array.length_toList] at this
  match cargs, this, h with
  | ⟨[u]⟩, _, h => exact ⟨u, rfl, h.1⟩
end AL
namespace AL
open Go
set_option linter.unusedVariables false
def RetIO (P : Program) (fn : Func) (res : AV) (D : Nat) (o : AObj) (e : Exit) (s : AS) : Prop :=
  (e = .ret ∨ e = .normal) ∧ ∃ r o', evRes P fn s = some r ∧ r = res ∧ s.obj D = some o' ∧ o' = o ∧ Nat.ble s.n D = true
theorem IO.of_body {P : Program} {f : FuncId} {fn : Func} {c : Code} {rest : List TV} {res : AV} {n D : Nat} {row row' : List AC} (hf : P.funcs[f]? = some fn) (hb : fn.body = some c) (hn : (fn.name == "runtime.NumGoroutine") = false)
    (hnt : fn.ntmps = n) (hle : Nat.ble (rest.length + 1) n = true) (hno : res.no = true) (hr : tvsNo rest = true) (hi : acsNo row = true) (ho : acsNo row' = true)
    (h : AMx P (RetIO P fn res D (.row row')) [.code c] .normal (AS.lst n (argRegs 0 (.c (.ptr D 0) :: rest)) [(D, .row row)])) (d : Nat) :
    Spec P f (.c (.ptr d 0) :: rest) (ofH [(d, .row row)]) res (ofH [(d, .row row')]) := by
  refine ⟨⟨fn, hf, by rw [hb]; rfl, hn⟩, fun Γ w cargs hh hm => ?_⟩
  refine calls_of_wp hf hb ?_
  let Γ1 : Ctx := ⟨Γ.I, fun j => bif Nat.beq j D then Γ.ρ d else Γ.ρ j, fun j => bif Nat.beq j D then Γ.η d else Γ.η j⟩
  have er : Γ1.ρ D = Γ.ρ d := by show (bif Nat.beq D D then _ else _) = _; rw [Nat.beq_refl]; rfl
  have hx1 : Ext (fun _ => True) Γ w Γ1 w := ⟨fun b hb => hb, fun b hb => rfl, fun id h => absurd trivial h⟩
  have hfp : ∀ o b, fp Γ1 D (.row o) b ↔ fp Γ d (.row o) b := fun o b => by unfold fp; rw [er]
  have hh1 : HeapOk Γ1 (ofH [(D, .row row)]) w := by
    refine ⟨fun j o hj => ?_, fun j o b hj hb => ?_, fun j o j' o' b hj hj' _ _ => ?_, hh.ilt, hh.glob⟩
    · obtain ⟨rfl, rfl⟩ := ofH_one.1 hj
      obtain ⟨cs, T, h1, h2⟩ := hh.objs d _ (ofH_one.2 ⟨rfl, rfl⟩)
      exact ⟨cs, T, by rw [er]; exact h1, MCs.ext hx1 (acsNo_has row hi) h2⟩
    · obtain ⟨rfl, rfl⟩ := ofH_one.1 hj
      exact hh.lt d _ b (ofH_one.2 ⟨rfl, rfl⟩) ((hfp _ _).1 hb)
    · obtain ⟨rfl, _⟩ := ofH_one.1 hj
      obtain ⟨rfl, _⟩ := ofH_one.1 hj'
      rfl
  have hm1 : MTs Γ1 w (.c (.ptr D 0) :: rest) cargs.toList := by
    revert hm
    cases cargs.toList with
    | nil => intro h; exact h.elim
    | cons v l =>
      intro h
      refine ⟨?_, MTs.ext hx1 (tvsNo_has rest hr) h.2⟩
      have h0 : v = .pointer (some ⟨Γ.ρ d, 0, none⟩) := h.1
      show v = .pointer (some ⟨Γ1.ρ D, 0, none⟩)
      rw [er]; exact h0
  have hpr : prOf Γ1 (ofH [(D, .row row)]) w = prOf Γ (ofH [(d, .row row)]) w := by
    funext b
    apply propext
    constructor
    · rintro ⟨h1, h2⟩
      refine ⟨h1, fun j o hj hb => ?_⟩
      obtain ⟨rfl, rfl⟩ := ofH_one.1 hj
      exact h2 D _ (ofH_one.2 ⟨rfl, rfl⟩) ((hfp _ _).2 hb)
    · rintro ⟨h1, h2⟩
      refine ⟨h1, fun j o hj hb => ?_⟩
      obtain ⟨rfl, rfl⟩ := ofH_one.1 hj
      exact h2 d _ (ofH_one.2 ⟨rfl, rfl⟩) ((hfp _ _).1 hb)
  have hC := body_start (P := P) (H := [(D, .row row)]) hnt (by exact hle) hh1 hm1
  refine wp_mono (h _ _ _ _ hC) ?_
  rintro e a' w' ⟨s', Γ', ⟨he, r, _, hr, rfl, hD', rfl, hsn⟩, hC'⟩
  obtain ⟨v, h1, h2, h3⟩ := res_ok (P := P) (fn := fn) hC' hr
  have hpost : a'.defers = [] ∧ ∃ v, (results fn a'.tmps).run P w' = Result.ok v w' ∧ ∃ v_1 Γ', Ending.returned v = .returned v_1 ∧ MV Γ' (ofH [(d, .row row')]) w' r v_1 ∧ HeapOk Γ' (ofH [(d, .row row')]) w' ∧ GOk ⟨w, prOf Γ (ofH [(d, .row row)]) w, Γ.I, Γ.ρ, Γ.η, []⟩ Γ' (ofH [(d, .row row')]) w' ∧ Agree (fun id => ofH [(d, .row row')] id ≠ none ∧ ofH [(d, .row row)] id = none) Γ Γ' := by
    let Γ2 : Ctx := ⟨Γ'.I, Γ.ρ, Γ.η⟩
    have hx : Ext (fun _ => True) Γ' w' Γ2 w' := ⟨fun b hb => hb, fun b hb => rfl, fun id h => absurd trivial h⟩
    have eD : Γ'.ρ D = Γ.ρ d := by
      have := (hC'.ids D (Nat.le_of_ble_eq_true hsn)).1
      exact this.trans er
    have hfp2 : ∀ b, fp Γ2 d (.row row') b → fp Γ' D (.row row') b := fun b hb => by
      unfold fp at hb ⊢
      rw [eD]; exact hb
    have hg := hC'.g
    rw [hpr] at hg
    refine ⟨hC'.defers, v, h1, v, Γ2, rfl, MV.ext hx (fun id o h => absurd trivial h) (AV.no_has r hno) (plain_obj (obj' := ofH [(d, .row row')]) h3 h2), ⟨fun j o hj => ?_, fun j o b hj hb => ?_, fun j o j' o' b hj hj' _ _ => ?_, hC'.heap.ilt, hC'.heap.glob⟩,
      ⟨hg.os, hg.tape, hg.output, hg.size, hg.prlt, hg.keep, hg.sub, hg.bak, fun j o b hj hb => ?_⟩, fun _ _ => ⟨rfl, rfl⟩⟩
    · obtain ⟨rfl, rfl⟩ := ofH_one.1 hj
      obtain ⟨cs, T, q1, q2⟩ := hC'.heap.objs D _ hD'
      exact ⟨cs, T, by rw [show Γ2.ρ j = Γ'.ρ D from eD.symm]; exact q1, MCs.ext hx (acsNo_has row' ho) q2⟩
    · obtain ⟨rfl, rfl⟩ := ofH_one.1 hj
      exact hC'.heap.lt D _ b hD' (hfp2 b hb)
    · obtain ⟨rfl, _⟩ := ofH_one.1 hj
      obtain ⟨rfl, _⟩ := ofH_one.1 hj'
      rfl
    · obtain ⟨rfl, rfl⟩ := ofH_one.1 hj
      exact hg.own D _ b hD' (hfp2 b hb)
  rcases he with rfl | rfl
  · exact hpost
  · exact hpost
end AL
namespace AL
open Go
set_option linter.unusedVariables false
theorem grow_mo {Γ Γ2 : Ctx} {w : World} {d id : Nat} {o : AObj} (hg : isGrow o = true) (er : Γ2.ρ d = Γ.ρ id) (ee : Γ2.η d = Γ.η id) (ei : Γ2.I = Γ.I) (h : MO Γ w id o) : MO Γ2 w d o := by
  cases o with
  | grow T k α dd row l =>
    unfold MO at h ⊢
    rw [er, ee, ei]
    exact h
  | _ => cases hg
theorem OwnIO.of_body {P : Program} {f : FuncId} {fn : Func} {c : Code} {rest : List TV} {n D : Nat} {o0 o : AObj} (hf : P.funcs[f]? = some fn) (hb : fn.body = some c) (hn : (fn.name == "runtime.NumGoroutine") = false)
    (hnt : fn.ntmps = n) (hle : Nat.ble (rest.length + 1) n = true) (hr : tvsNo rest = true) (h0 : isGrow o0 = true) (hg : isGrow o = true)
    (h : AMx P (RetO P fn o) [.code c] .normal (AS.lst n (argRegs 0 (.c (.own D) :: rest)) [(D, o0)])) (d d' : Nat) (hd : Nat.beq d d' = false) :
    Spec P f (.c (.own d) :: rest) (ofH [(d, o0)]) (vo d') (ofH [(d', o)]) := by
  refine ⟨⟨fn, hf, by rw [hb]; rfl, hn⟩, fun Γ w cargs hh hm => ?_⟩
  refine calls_of_wp hf hb ?_
  let Γ1 : Ctx := ⟨Γ.I, fun j => bif Nat.beq j D then Γ.ρ d else Γ.ρ j, fun j => bif Nat.beq j D then Γ.η d else Γ.η j⟩
  have er : Γ1.ρ D = Γ.ρ d := by show (bif Nat.beq D D then _ else _) = _; rw [Nat.beq_refl]; rfl
  have ee : Γ1.η D = Γ.η d := by show (bif Nat.beq D D then _ else _) = _; rw [Nat.beq_refl]; rfl
  have hx1 : Ext (fun _ => True) Γ w Γ1 w := ⟨fun b hb => hb, fun b hb => rfl, fun id h => absurd trivial h⟩
  have hfp : ∀ o b, fp Γ1 D o b ↔ fp Γ d o b := fun o b => by unfold fp; rw [er, ee]
  have hh1 : HeapOk Γ1 (ofH [(D, o0)]) w := by
    refine ⟨fun j o hj => ?_, fun j o b hj hb => ?_, fun j o j' o' b hj hj' _ _ => ?_, hh.ilt, hh.glob⟩
    · obtain ⟨rfl, rfl⟩ := ofH_one.1 hj
      exact grow_mo h0 er ee rfl (hh.objs d _ (ofH_one.2 ⟨rfl, rfl⟩))
    · obtain ⟨rfl, rfl⟩ := ofH_one.1 hj
      exact hh.lt d _ b (ofH_one.2 ⟨rfl, rfl⟩) ((hfp _ _).1 hb)
    · obtain ⟨rfl, _⟩ := ofH_one.1 hj
      obtain ⟨rfl, _⟩ := ofH_one.1 hj'
      rfl
  have hm1 : MTs Γ1 w (.c (.own D) :: rest) cargs.toList := by
    revert hm
    cases cargs.toList with
    | nil => intro h; exact h.elim
    | cons v l =>
      intro h
      refine ⟨?_, MTs.ext hx1 (tvsNo_has rest hr) h.2⟩
      have h0 : v = Γ.η d ∧ v.oneCell' = true := h.1
      exact ⟨h0.1.trans ee.symm, h0.2⟩
  have hpr : prOf Γ1 (ofH [(D, o0)]) w = prOf Γ (ofH [(d, o0)]) w := by
    funext b
    apply propext
    constructor
    · rintro ⟨h1, h2⟩
      refine ⟨h1, fun j o hj hb => ?_⟩
      obtain ⟨rfl, rfl⟩ := ofH_one.1 hj
      exact h2 D _ (ofH_one.2 ⟨rfl, rfl⟩) ((hfp _ _).2 hb)
    · rintro ⟨h1, h2⟩
      refine ⟨h1, fun j o hj hb => ?_⟩
      obtain ⟨rfl, rfl⟩ := ofH_one.1 hj
      exact h2 d _ (ofH_one.2 ⟨rfl, rfl⟩) ((hfp _ _).1 hb)
  have hC := body_start (P := P) (H := [(D, o0)]) hnt (by exact hle) hh1 hm1
  refine wp_mono (h _ _ _ _ hC) ?_
  rintro e a' w' ⟨s', Γ', ⟨he, id, _, hr, hid, rfl⟩, hC'⟩
  obtain ⟨v, h1, h2, h3⟩ := res_ok (P := P) (fn := fn) hC' hr
  rename_i o
  have hpost : a'.defers = [] ∧ ∃ v, (results fn a'.tmps).run P w' = Result.ok v w' ∧ ∃ v_1 Γ', Ending.returned v = .returned v_1 ∧ MV Γ' (ofH [(d', o)]) w' (vo d') v_1 ∧ HeapOk Γ' (ofH [(d', o)]) w' ∧ GOk ⟨w, prOf Γ (ofH [(d, o0)]) w, Γ.I, Γ.ρ, Γ.η, []⟩ Γ' (ofH [(d', o)]) w' ∧ Agree (fun id => ofH [(d', o)] id ≠ none ∧ ofH [(d, o0)] id = none) Γ Γ' := by
    let Γ2 : Ctx := ⟨Γ'.I, fun j => bif Nat.beq j d' then Γ'.ρ id else Γ.ρ j, fun j => bif Nat.beq j d' then Γ'.η id else Γ.η j⟩
    have er2 : Γ2.ρ d' = Γ'.ρ id := by show (bif Nat.beq d' d' then _ else _) = _; rw [Nat.beq_refl]; rfl
    have ee2 : Γ2.η d' = Γ'.η id := by show (bif Nat.beq d' d' then _ else _) = _; rw [Nat.beq_refl]; rfl
    have hfp2 : ∀ b, fp Γ2 d' o b → fp Γ' id o b := fun b hb => by
      unfold fp at hb ⊢
      rw [er2, ee2] at hb
      exact hb
    have hg' := hC'.g
    rw [hpr] at hg'
    refine ⟨hC'.defers, v, h1, v, Γ2, rfl, ?_, ⟨fun j o' hj => ?_, fun j o' b hj hb => ?_, fun j o1 j' o2 b hj hj' _ _ => ?_, hC'.heap.ilt, hC'.heap.glob⟩,
      ⟨hg'.os, hg'.tape, hg'.output, hg'.size, hg'.prlt, hg'.keep, hg'.sub, hg'.bak, fun j o' b hj hb => ?_⟩, fun j hj => ?_⟩
    · have h2' : v = Γ'.η id ∧ v.oneCell' = true := h2
      exact ⟨h2'.1.trans ee2.symm, h2'.2⟩
    · obtain ⟨rfl, rfl⟩ := ofH_one.1 hj
      exact grow_mo hg er2 ee2 rfl (hC'.heap.objs id _ hid)
    · obtain ⟨rfl, rfl⟩ := ofH_one.1 hj
      exact hC'.heap.lt id _ b hid (hfp2 b hb)
    · obtain ⟨rfl, _⟩ := ofH_one.1 hj
      obtain ⟨rfl, _⟩ := ofH_one.1 hj'
      rfl
    · obtain ⟨rfl, rfl⟩ := ofH_one.1 hj
      exact hg'.own id _ b hid (hfp2 b hb)
    · have hne : j ≠ d' := fun e => hj ⟨by subst e; rw [ofH_one.2 ⟨rfl, rfl⟩]; simp, by
        subst e
        cases q : ofH [(d, o0)] j with
        | none => rfl
        | some o' =>
          obtain ⟨q1, _⟩ := ofH_one.1 q
          rw [q1, Nat.beq_refl] at hd
          cases hd⟩
      refine ⟨?_, ?_⟩
      · show (bif Nat.beq j d' then _ else _) = _; rw [beq_false hne]; rfl
      · show (bif Nat.beq j d' then _ else _) = _; rw [beq_false hne]; rfl
  rcases he with rfl | rfl
  · exact hpost
  · exact hpost
def RetT (P : Program) (fn : Func) (rs : List TV) (o : AObj) (e : Exit) (s : AS) : Prop :=
  (e = .ret ∨ e = .normal) ∧ ∃ id o' r, evRes P fn s = some r ∧ r = .tup (.c (.own id) :: rs) ∧ s.obj id = some o' ∧ o' = o
theorem OwnT.of_body {P : Program} {f : FuncId} {fn : Func} {c : Code} {args : List TV} {rs : List TV} {o : AObj} {n : Nat} (hf : P.funcs[f]? = some fn) (hb : fn.body = some c) (hn : (fn.name == "runtime.NumGoroutine") = false)
    (hnt : fn.ntmps = n) (hle : Nat.ble args.length n = true) (hg : isGrow o = true) (hrs : tvsNo rs = true) (h : AMx P (RetT P fn rs o) [.code c] .normal (AS.lst n (argRegs 0 args) [])) (d : Nat) : Spec P f args H0 (.tup (.c (.own d) :: rs)) (ofH [(d, o)]) := by
  refine ⟨⟨fn, hf, by rw [hb]; rfl, hn⟩, fun Γ w cargs hh hm => ?_⟩
  refine calls_of_wp hf hb ?_
  have hC := body_start (P := P) (H := []) hnt hle hh hm
  refine wp_mono (h _ _ _ _ hC) ?_
  rintro e a' w' ⟨s', Γ', ⟨he, id, _, _, hr, rfl, hid, rfl⟩, hC'⟩
  obtain ⟨v, h1, h2, h3⟩ := res_ok (P := P) (fn := fn) hC' hr
  rename_i o
  have hpost : a'.defers = [] ∧ ∃ v, (results fn a'.tmps).run P w' = Result.ok v w' ∧ ∃ v_1 Γ', Ending.returned v = .returned v_1 ∧ MV Γ' (ofH [(d, o)]) w' (.tup (.c (.own d) :: rs)) v_1 ∧ HeapOk Γ' (ofH [(d, o)]) w' ∧ GOk ⟨w, prOf Γ (ofH []) w, Γ.I, Γ.ρ, Γ.η, []⟩ Γ' (ofH [(d, o)]) w' ∧ Agree (fun id => ofH [(d, o)] id ≠ none ∧ H0 id = none) Γ Γ' := by
    let Γ2 : Ctx := ⟨Γ'.I, fun j => bif Nat.beq j d then Γ'.ρ id else Γ.ρ j, fun j => bif Nat.beq j d then Γ'.η id else Γ.η j⟩
    have er : Γ2.ρ d = Γ'.ρ id := by show (bif Nat.beq d d then _ else _) = _; rw [Nat.beq_refl]; rfl
    have ee : Γ2.η d = Γ'.η id := by show (bif Nat.beq d d then _ else _) = _; rw [Nat.beq_refl]; rfl
    have hx : Ext (fun _ => True) Γ' w' Γ2 w' := ⟨fun b hb => hb, fun b hb => rfl, fun id h => absurd trivial h⟩
    have hfp : ∀ b, fp Γ2 d o b → fp Γ' id o b := fun b hb => by
      unfold fp at hb ⊢
      rw [er, ee] at hb
      exact hb
    refine ⟨hC'.defers, v, h1, v, Γ2, rfl, ?_, ⟨fun j o' hj => ?_, fun j o' b hj hb => ?_, fun j o1 j' o2 b hj hj' _ _ => ?_, hC'.heap.ilt, hC'.heap.glob⟩,
      ⟨hC'.g.os, hC'.g.tape, hC'.g.output, hC'.g.size, hC'.g.prlt, hC'.g.keep, hC'.g.sub, hC'.g.bak, fun j o' b hj hb => ?_⟩, fun j hj => ?_⟩
    · obtain ⟨vs, e1, e2⟩ := h2
      refine ⟨vs, e1, ?_⟩
      revert e2
      cases hvs : vs.toList with
      | nil => intro h; exact h.elim
      | cons x l =>
        intro h
        refine ⟨?_, MTs.ext hx (tvsNo_has rs hrs) h.2⟩
        have h2' : x = Γ'.η id ∧ x.oneCell' = true := h.1
        exact ⟨h2'.1.trans ee.symm, h2'.2⟩
    · obtain ⟨rfl, rfl⟩ := ofH_one.1 hj
      exact grow_mo hg er ee rfl (hC'.heap.objs id _ hid)
    · obtain ⟨rfl, rfl⟩ := ofH_one.1 hj
      exact hC'.heap.lt id _ b hid (hfp b hb)
    · obtain ⟨rfl, _⟩ := ofH_one.1 hj
      obtain ⟨rfl, _⟩ := ofH_one.1 hj'
      rfl
    · obtain ⟨rfl, rfl⟩ := ofH_one.1 hj
      exact hC'.g.own id _ b hid (hfp b hb)
    · have : j ≠ d := fun e => hj ⟨by subst e; rw [ofH_one.2 ⟨rfl, rfl⟩]; simp, rfl⟩
      refine ⟨?_, ?_⟩
      · show (bif Nat.beq j d then _ else _) = _; rw [beq_false this]; rfl
      · show (bif Nat.beq j d then _ else _) = _; rw [beq_false this]; rfl
  rcases he with rfl | rfl
  · exact hpost
  · exact hpost
def RetI (P : Program) (fn : Func) (D : Nat) (o : AObj) (e : Exit) (s : AS) : Prop :=
  (e = .ret ∨ e = .normal) ∧ ∃ o', evRes P fn s = some (.tup []) ∧ s.obj D = some o' ∧ o' = o ∧ Nat.ble s.n D = true
theorem InPl.of_body {P : Program} {f : FuncId} {fn : Func} {c : Code} {rest : List TV} {n D : Nat} {o0 o : AObj} (hf : P.funcs[f]? = some fn) (hb : fn.body = some c) (hn : (fn.name == "runtime.NumGoroutine") = false)
    (hnt : fn.ntmps = n) (hle : Nat.ble (rest.length + 1) n = true) (hr : tvsNo rest = true) (h0 : isGrow o0 = true) (hg : isGrow o = true)
    (h : AMx P (RetI P fn D o) [.code c] .normal (AS.lst n (argRegs 0 (.c (.own D) :: rest)) [(D, o0)])) (d : Nat) :
    Spec P f (.c (.own d) :: rest) (ofH [(d, o0)]) (.tup []) (ofH [(d, o)]) := by
  refine ⟨⟨fn, hf, by rw [hb]; rfl, hn⟩, fun Γ w cargs hh hm => ?_⟩
  refine calls_of_wp hf hb ?_
  let Γ1 : Ctx := ⟨Γ.I, fun j => bif Nat.beq j D then Γ.ρ d else Γ.ρ j, fun j => bif Nat.beq j D then Γ.η d else Γ.η j⟩
  have er : Γ1.ρ D = Γ.ρ d := by show (bif Nat.beq D D then _ else _) = _; rw [Nat.beq_refl]; rfl
  have ee : Γ1.η D = Γ.η d := by show (bif Nat.beq D D then _ else _) = _; rw [Nat.beq_refl]; rfl
  have hx1 : Ext (fun _ => True) Γ w Γ1 w := ⟨fun b hb => hb, fun b hb => rfl, fun id h => absurd trivial h⟩
  have hfp : ∀ o b, fp Γ1 D o b ↔ fp Γ d o b := fun o b => by unfold fp; rw [er, ee]
  have hh1 : HeapOk Γ1 (ofH [(D, o0)]) w := by
    refine ⟨fun j o hj => ?_, fun j o b hj hb => ?_, fun j o j' o' b hj hj' _ _ => ?_, hh.ilt, hh.glob⟩
    · obtain ⟨rfl, rfl⟩ := ofH_one.1 hj
      exact grow_mo h0 er ee rfl (hh.objs d _ (ofH_one.2 ⟨rfl, rfl⟩))
    · obtain ⟨rfl, rfl⟩ := ofH_one.1 hj
      exact hh.lt d _ b (ofH_one.2 ⟨rfl, rfl⟩) ((hfp _ _).1 hb)
    · obtain ⟨rfl, _⟩ := ofH_one.1 hj
      obtain ⟨rfl, _⟩ := ofH_one.1 hj'
      rfl
  have hm1 : MTs Γ1 w (.c (.own D) :: rest) cargs.toList := by
    revert hm
    cases cargs.toList with
    | nil => intro h; exact h.elim
    | cons v l =>
      intro h
      refine ⟨?_, MTs.ext hx1 (tvsNo_has rest hr) h.2⟩
      have h0 : v = Γ.η d ∧ v.oneCell' = true := h.1
      exact ⟨h0.1.trans ee.symm, h0.2⟩
  have hpr : prOf Γ1 (ofH [(D, o0)]) w = prOf Γ (ofH [(d, o0)]) w := by
    funext b
    apply propext
    constructor
    · rintro ⟨h1, h2⟩
      refine ⟨h1, fun j o hj hb => ?_⟩
      obtain ⟨rfl, rfl⟩ := ofH_one.1 hj
      exact h2 D _ (ofH_one.2 ⟨rfl, rfl⟩) ((hfp _ _).2 hb)
    · rintro ⟨h1, h2⟩
      refine ⟨h1, fun j o hj hb => ?_⟩
      obtain ⟨rfl, rfl⟩ := ofH_one.1 hj
      exact h2 d _ (ofH_one.2 ⟨rfl, rfl⟩) ((hfp _ _).1 hb)
  have hC := body_start (P := P) (H := [(D, o0)]) hnt (by exact hle) hh1 hm1
  refine wp_mono (h _ _ _ _ hC) ?_
  rintro e a' w' ⟨s', Γ', ⟨he, _, hr, hid, rfl, hsn⟩, hC'⟩
  obtain ⟨v, h1, h2, h3⟩ := res_ok (P := P) (fn := fn) hC' hr
  rename_i o
  have hpost : a'.defers = [] ∧ ∃ v, (results fn a'.tmps).run P w' = Result.ok v w' ∧ ∃ v_1 Γ', Ending.returned v = .returned v_1 ∧ MV Γ' (ofH [(d, o)]) w' (.tup []) v_1 ∧ HeapOk Γ' (ofH [(d, o)]) w' ∧ GOk ⟨w, prOf Γ (ofH [(d, o0)]) w, Γ.I, Γ.ρ, Γ.η, []⟩ Γ' (ofH [(d, o)]) w' ∧ Agree (fun id => ofH [(d, o)] id ≠ none ∧ ofH [(d, o0)] id = none) Γ Γ' := by
    let Γ2 : Ctx := ⟨Γ'.I, Γ.ρ, Γ.η⟩
    have eD := hC'.ids D (Nat.le_of_ble_eq_true hsn)
    have er2 : Γ2.ρ d = Γ'.ρ D := (eD.1.trans er).symm
    have ee2 : Γ2.η d = Γ'.η D := (eD.2.trans ee).symm
    have hfp2 : ∀ b, fp Γ2 d o b → fp Γ' D o b := fun b hb => by
      unfold fp at hb ⊢
      rw [er2, ee2] at hb
      exact hb
    have hg' := hC'.g
    rw [hpr] at hg'
    refine ⟨hC'.defers, v, h1, v, Γ2, rfl, ?_, ⟨fun j o' hj => ?_, fun j o' b hj hb => ?_, fun j o1 j' o2 b hj hj' _ _ => ?_, hC'.heap.ilt, hC'.heap.glob⟩,
      ⟨hg'.os, hg'.tape, hg'.output, hg'.size, hg'.prlt, hg'.keep, hg'.sub, hg'.bak, fun j o' b hj hb => ?_⟩, fun j hj => ⟨rfl, rfl⟩⟩
    · obtain ⟨vs, e1, e2⟩ := h2
      refine ⟨vs, e1, ?_⟩
      revert e2
      cases vs.toList with
      | nil => exact fun _ => trivial
      | cons x l => exact fun h => h.elim
    · obtain ⟨rfl, rfl⟩ := ofH_one.1 hj
      exact grow_mo hg er2 ee2 rfl (hC'.heap.objs D _ hid)
    · obtain ⟨rfl, rfl⟩ := ofH_one.1 hj
      exact hC'.heap.lt D _ b hid (hfp2 b hb)
    · obtain ⟨rfl, _⟩ := ofH_one.1 hj
      obtain ⟨rfl, _⟩ := ofH_one.1 hj'
      rfl
    · obtain ⟨rfl, rfl⟩ := ofH_one.1 hj
      exact hg'.own D _ b hid (hfp2 b hb)
  rcases he with rfl | rfl
  · exact hpost
  · exact hpost
end AL
namespace AL.Fnv
open Go AL
set_option linter.unusedVariables false
set_option linter.unusedSimpArgs false
theorem take_succ {α : Type} (d : α) (l : List α) (k : Nat) (h : k < l.length) : List.take (k + 1) l = List.take k l ++ [List.getD l k d] := by
  rw [List.take_succ_eq_append_getElem h]; simp [List.getD, List.getElem?_eq_getElem h]
def rowS (s : Bytes) (_ : Nat) : SC := st s
abbrev slS (l : List Bytes) : SC := .sl 1 Bytes [] rowS l
end AL.Fnv
namespace AL.Lib
open Go AL
set_option linter.unusedVariables false
set_option linter.unusedSimpArgs false
variable {α : Type}
theorem getD_lt (d : α) (l : List α) (k : Nat) (h : k < l.length) : List.getD l k d = l[k] := by simp [List.getD, List.getElem?_eq_getElem h]
theorem getD_mem (d : α) (l : List α) (k : Nat) (h : k < l.length) : List.getD l k d ∈ l := by rw [getD_lt d l k h]; exact List.getElem_mem h
theorem take_succ (d : α) (l : List α) (k : Nat) (h : k < l.length) : List.take (k + 1) l = List.take k l ++ [List.getD l k d] := Fnv.take_succ d l k h
theorem drop_cons (d : α) (l : List α) (k : Nat) (h : k < l.length) : List.drop k l = List.getD l k d :: List.drop (k + 1) l := by
  rw [List.drop_eq_getElem_cons h, getD_lt d l k h]
theorem take_cons (d : α) (l : List α) (k : Nat) (h : k < l.length) : l = List.take k l ++ List.getD l k d :: List.drop (k + 1) l := by
  rw [← drop_cons d l k h, List.take_append_drop]
def idxS (p : α → Bool) : List α → Int
  | [] => -1
  | x :: l => if p x then 0 else if idxS p l < 0 then -1 else idxS p l + 1
theorem idx_range (p : α → Bool) (l : List α) : -1 ≤ idxS p l ∧ idxS p l < l.length ∨ idxS p l = -1 := by
  induction l with
  | nil => right; rfl
  | cons x l ih =>
    unfold idxS
    split
    · left; simp
    · split
      · right; rfl
      · rw [List.length_cons]; left; omega
theorem idx_lt (p : α → Bool) (l : List α) : idxS p l < l.length := by
  rcases idx_range p l with h | h <;> omega
theorem idx_ge (p : α → Bool) (l : List α) : -1 ≤ idxS p l := by
  rcases idx_range p l with h | h <;> omega
theorem idx_none {p : α → Bool} {l : List α} (h : ∀ x ∈ l, p x = false) : idxS p l = -1 := by
  induction l with
  | nil => rfl
  | cons x l ih =>
    unfold idxS
    rw [if_neg (by simp [h x]), ih fun y hy => h y (List.mem_cons_of_mem _ hy)]
    rfl
theorem idx_app {p : α → Bool} {x : α} {m : List α} : ∀ {l : List α}, (∀ y ∈ l, p y = false) → p x = true → idxS p (l ++ x :: m) = l.length
  | [], _, hx => by simp [idxS, hx]
  | y :: l, h, hx => by
    rw [List.cons_append]
    unfold idxS
    rw [if_neg (by simp [h y]), idx_app (fun z hz => h z (List.mem_cons_of_mem _ hz)) hx]
    rw [if_neg (by omega)]
    simp
theorem idx_hit {p : α → Bool} (d : α) (l : List α) (k : Nat) (hk : k < l.length) (h : ∀ x ∈ List.take k l, p x = false) (hx : p (List.getD l k d) = true) : idxS p l = k := by
  have := idx_app (m := List.drop (k + 1) l) h hx
  rw [← take_cons d l k hk, List.length_take] at this
  rw [this]; congr 1; omega
theorem idx_neg {p : α → Bool} {l : List α} (h : idxS p l < 0) : ∀ x ∈ l, p x = false := by
  induction l with
  | nil => intro x hx; cases hx
  | cons y l ih =>
    unfold idxS at h
    split at h
    · omega
    · rename_i hy
      split at h
      · intro x hx
        rcases List.mem_cons.1 hx with rfl | hx
        · simpa using hy
        · exact ih (by omega) x hx
      · omega
theorem idx_pos {p : α → Bool} (d : α) {l : List α} (h : 0 ≤ idxS p l) : p (List.getD l (idxS p l).toNat d) = true ∧ ∀ x ∈ List.take (idxS p l).toNat l, p x = false := by
  induction l with
  | nil => simp [idxS] at h
  | cons y l ih =>
    unfold idxS at h ⊢
    split
    · rename_i hy; exact ⟨by simpa using hy, fun x hx => by simp at hx⟩
    · rename_i hy
      rw [if_neg hy] at h
      split
      · rename_i hn; rw [if_pos hn] at h; omega
      · rename_i hn
        obtain ⟨h1, h2⟩ := ih (by omega)
        have e : (idxS p l + 1).toNat = (idxS p l).toNat + 1 := by omega
        rw [e]
        refine ⟨by simpa using h1, fun x hx => ?_⟩
        rw [List.take_succ_cons] at hx
        rcases List.mem_cons.1 hx with rfl | hx
        · simpa using hy
        · exact h2 x hx
theorem all_step {p : α → Bool} (d : α) (l : List α) (k : Nat) (hk : k < l.length) (h : ∀ x ∈ List.take k l, p x = false) (hx : p (List.getD l k d) = false) : ∀ x ∈ List.take (k + 1) l, p x = false := by
  intro x hm
  rw [take_succ d l k hk] at hm
  rcases List.mem_append.1 hm with h1 | h1
  · exact h x h1
  · rw [List.mem_singleton.1 h1]; exact hx
theorem same_step (d : α) (a b : List α) (k : Nat) (ha : k < a.length) (hb : k < b.length) (h : List.take k a = List.take k b) (hx : List.getD a k d = List.getD b k d) : List.take (k + 1) a = List.take (k + 1) b := by
  rw [take_succ d a k ha, take_succ d b k hb, h, hx]
theorem same_end (a b : List α) (k : Nat) (hl : a.length = b.length) (hk : a.length ≤ k) (h : List.take k a = List.take k b) : a = b := by
  rwa [List.take_of_length_le hk, List.take_of_length_le (by omega)] at h
theorem flat_step (d : List α) (ls : List (List α)) (k : Nat) (hk : k < ls.length) : (List.take k ls).flatten ++ List.getD ls k d = (List.take (k + 1) ls).flatten := by
  rw [take_succ d ls k hk]; simp
theorem flat_len (ls : List (List α)) (k : Nat) (hk : k < ls.length) : (List.take (k + 1) ls).flatten.length = (List.take k ls).flatten.length + (List.getD ls k []).length := by
  rw [← flat_step [] ls k hk, List.length_append]
theorem flat_le (ls : List (List α)) (k : Nat) : (List.take k ls).flatten.length ≤ ls.flatten.length := by
  conv => rhs; rw [← List.take_append_drop k ls]
  rw [List.flatten_append, List.length_append]; omega
theorem flat_all (ls : List (List α)) (k : Nat) (h : ls.length ≤ k) : (List.take k ls).flatten = ls.flatten := by rw [List.take_of_length_le h]
theorem half {i j : Nat} (h : i + j < 9223372036854775808) : Int.fdiv (IntKind.wrap .u64 ((i : Int) + (j : Int))) (2 ^ (min (1 : Int).toNat (IntKind.bits .u64))) = (((i + j) / 2 : Nat) : Int) := by
  rw [show (2 : Int) ^ (min (1 : Int).toNat (IntKind.bits .u64)) = ((2 : Nat) : Int) by decide +kernel]
  have h1 : IntKind.wrap .u64 ((i : Int) + (j : Int)) = ((i + j : Nat) : Int) := by
    simp [IntKind.wrap, IntKind.signed, IntKind.bits]; omega
  rw [h1, Int.fdiv_eq_ediv_of_nonneg _ (by omega)]
  rfl
def leadS (p : α → Bool) (l : List α) : Nat := (l.takeWhile p).length
theorem lead_eq {p : α → Bool} (l : List α) (k : Nat) (hk : k ≤ l.length) (h1 : ∀ x ∈ List.take k l, p x = true) (h2 : ∀ x ∈ List.drop k l, p x = false) : leadS p l = k := by
  unfold leadS
  induction l generalizing k with
  | nil => simp at hk ⊢; omega
  | cons y l ih =>
    cases k with
    | zero => rw [List.takeWhile_cons, if_neg (by simp [h2 y])]; rfl
    | succ k =>
      rw [List.takeWhile_cons, if_pos (h1 y (by simp)), List.length_cons, ih k (by simpa using hk) (fun x hx => h1 x (by simp [hx])) (fun x hx => h2 x (by simpa using hx))]
theorem takeWhile_all {p : α → Bool} {x : α} : ∀ {l : List α}, x ∈ l.takeWhile p → p x = true
  | [], h => by cases h
  | y :: l, h => by
    rw [List.takeWhile_cons] at h
    split at h
    · rcases List.mem_cons.1 h with e | h
      · rw [e]; assumption
      · exact takeWhile_all h
    · cases h
theorem lead_le (p : α → Bool) (l : List α) : leadS p l ≤ l.length := (List.takeWhile_prefix p).length_le
def Ahead (p : α → Bool) (l : List α) : Prop := l.Pairwise fun x y => p y = true → p x = true
theorem ahead_lo {p : α → Bool} (d : α) {l : List α} (ha : Ahead p l) (k : Nat) (hk : k < l.length) (h : p (List.getD l k d) = true) : ∀ x ∈ List.take (k + 1) l, p x = true := by
  intro x hx
  rw [take_succ d l k hk] at hx
  rcases List.mem_append.1 hx with hx | hx
  · unfold Ahead at ha
    rw [take_cons d l k hk] at ha
    exact (List.pairwise_append.1 ha).2.2 x hx _ (List.mem_cons_self ..) h
  · rw [List.mem_singleton.1 hx]; exact h
theorem ahead_hi {p : α → Bool} (d : α) {l : List α} (ha : Ahead p l) (k : Nat) (hk : k < l.length) (h : p (List.getD l k d) = false) : ∀ x ∈ List.drop k l, p x = false := by
  intro x hx
  rw [drop_cons d l k hk] at hx
  rcases List.mem_cons.1 hx with rfl | hx
  · exact h
  · unfold Ahead at ha
    rw [take_cons d l k hk] at ha
    have := (List.pairwise_cons.1 (List.pairwise_append.1 ha).2.1).1 x hx
    cases hp : p x with
    | false => rfl
    | true => rw [this hp] at h; cases h
end AL.Lib
namespace AL.Rune
open Go AL
set_option linter.unusedVariables false
set_option linter.unusedSimpArgs false
theorem get_ba (s : Bytes) (i : Nat) : (ba s).get! i = List.getD s i 0 := by
  show (s.toArray)[i]! = _
  rw [List.getD_eq_getElem?_getD]
  by_cases h : i < s.length
  · rw [getElem!_pos _ i (by simpa using h)]; simp [h]
  · rw [getElem!_neg _ i (by simpa using h)]; simp [h]; rfl
theorem dec_N (s : Bytes) (pos : Nat) : decS s pos = Go.Lib.decodeN (s.length - pos) (List.getD s pos 0).toNat (List.getD s (pos + 1) 0).toNat (List.getD s (pos + 2) 0).toNat (List.getD s (pos + 3) 0).toNat := by
  unfold decS
  rw [Go.Lib.decode_at, get_ba, get_ba, get_ba, get_ba, size_ba]
theorem getD_drop (s : Bytes) (i j : Nat) : List.getD (List.drop i s) j 0 = List.getD s (i + j) 0 := by
  rw [List.getD_eq_getElem?_getD, List.getD_eq_getElem?_getD, List.getElem?_drop]
theorem dec_drop (s : Bytes) (pos : Nat) : decS s pos = decS (List.drop pos s) 0 := by
  rw [dec_N, dec_N, getD_drop, getD_drop, getD_drop, getD_drop, List.length_drop]; simp
theorem dec_L (s : Bytes) : decS s 0 = Go.Lib.decodeL s := rfl
theorem dec_ok {s : Bytes} {pos : Nat} (h : pos < s.length) : 1 ≤ (decS s pos).2 ∧ pos + (decS s pos).2 ≤ s.length := by
  rw [dec_drop, dec_L]
  have h1 := Go.Lib.decodeL_width (List.drop pos s)
  have h2 := Go.Lib.decodeL_le (List.drop pos s) (by intro e; have := congrArg List.length e; simp at this; omega)
  rw [List.length_drop] at h2
  omega
theorem byte_lt (s : Bytes) (i : Nat) : (List.getD s i 0).toNat < 256 := UInt8.toNat_lt _
abbrev R := Nat × Bytes
def runesN : Nat → Bytes → List R
  | 0, _ => []
  | n + 1, s => if s = [] then [] else ((decS s 0).1, List.take (decS s 0).2 s) :: runesN n (List.drop (decS s 0).2 s)
def runesS (s : Bytes) : List R := runesN s.length s
theorem runesN_any : ∀ (n m : Nat) (s : Bytes), s.length ≤ n → s.length ≤ m → runesN n s = runesN m s
  | 0, 0, _, _, _ => rfl
  | 0, m + 1, s, h, _ => by
    have : s = [] := List.eq_nil_of_length_eq_zero (by omega)
    subst this; rfl
  | n + 1, 0, s, _, h => by
    have : s = [] := List.eq_nil_of_length_eq_zero (by omega)
    subst this; rfl
  | n + 1, m + 1, s, h1, h2 => by
    unfold runesN
    split
    · rfl
    · rename_i hs
      have hd := dec_ok (s := s) (pos := 0) (List.length_pos_iff.2 hs)
      rw [runesN_any n m _ (by rw [List.length_drop]; omega) (by rw [List.length_drop]; omega)]
theorem runes_cons {s : Bytes} (hs : s ≠ []) : runesS s = ((decS s 0).1, List.take (decS s 0).2 s) :: runesS (List.drop (decS s 0).2 s) := by
  have hl := List.length_pos_iff.2 hs
  have hd := dec_ok (s := s) (pos := 0) hl
  unfold runesS
  obtain ⟨n, hn⟩ : ∃ n, s.length = n + 1 := ⟨s.length - 1, by omega⟩
  rw [hn]
  conv => lhs; unfold runesN
  rw [if_neg hs, runesN_any n (List.drop (decS s 0).2 s).length _ (by rw [List.length_drop]; omega) (Nat.le_refl _)]
theorem runes_at {s : Bytes} {pos : Nat} (h : pos < s.length) : runesS (List.drop pos s) = ((decS s pos).1, List.take (decS s pos).2 (List.drop pos s)) :: runesS (List.drop (pos + (decS s pos).2) s) := by
  have hne : List.drop pos s ≠ [] := by intro e; have := congrArg List.length e; simp at this; omega
  rw [runes_cons hne, ← dec_drop, List.drop_drop]
theorem runes_end {s : Bytes} {pos : Nat} (h : s.length ≤ pos) : runesS (List.drop pos s) = [] := by rw [List.drop_of_length_le h]; rfl
theorem runes_ind {p : Bytes → Prop} (h0 : p []) (h1 : ∀ s, s ≠ [] → p (List.drop (decS s 0).2 s) → p s) : ∀ s, p s := by
  have : ∀ n (s : Bytes), s.length ≤ n → p s := by
    intro n
    induction n with
    | zero => intro s h; have : s = [] := List.eq_nil_of_length_eq_zero (by omega); subst this; exact h0
    | succ n ih =>
      intro s h
      by_cases hs : s = []
      · subst hs; exact h0
      · have hd := dec_ok (s := s) (pos := 0) (List.length_pos_iff.2 hs)
        exact h1 s hs (ih _ (by rw [List.length_drop]; omega))
  exact fun s => this s.length s (Nat.le_refl _)
theorem runes_len (s : Bytes) : (runesS s).length ≤ s.length := by
  refine runes_ind (p := fun s => (runesS s).length ≤ s.length) (Nat.le_refl _) (fun s hs ih => ?_) s
  rw [runes_cons hs, List.length_cons]
  have hd := dec_ok (s := s) (pos := 0) (List.length_pos_iff.2 hs)
  rw [List.length_drop] at ih
  omega
def tailS (s : Bytes) (i : Int) : Bool := decide (i < (s.length : Int)) && (decide (128 ≤ ((List.getD s i.toNat 0).toNat : Int)) && decide (((List.getD s i.toNat 0).toNat : Int) < 192))
def nextS (s : Bytes) (i : Nat) : Int × Int := if (decS s i).1 = 65533 ∧ (decS s i).2 = 1 then (-1, 1) else (((decS s i).1 : Int), ((decS s i).2 : Int))
theorem tail_iff {s : Bytes} {i : Int} : tailS s i = true ↔ i < (s.length : Int) ∧ 128 ≤ (List.getD s i.toNat 0).toNat ∧ (List.getD s i.toNat 0).toNat < 192 := by
  unfold tailS
  simp only [Bool.and_eq_true, decide_eq_true_eq]
  omega
theorem tail_neg {s : Bytes} {i : Int} : tailS s i = false ↔ ¬ (i < (s.length : Int) ∧ 128 ≤ (List.getD s i.toNat 0).toNat ∧ (List.getD s i.toNat 0).toNat < 192) := by
  rw [← tail_iff]; cases tailS s i <;> simp
theorem next_1 {s : Bytes} {i : Nat} (h : (List.getD s i 0).toNat < 128) : nextS s i = (((List.getD s i 0).toNat : Int), 1) := by
  unfold nextS
  rw [dec_N]
  have : Go.Lib.decodeN (s.length - i) (List.getD s i 0).toNat (List.getD s (i + 1) 0).toNat (List.getD s (i + 2) 0).toNat (List.getD s (i + 3) 0).toNat = ((List.getD s i 0).toNat, 1) := by
    unfold Go.Lib.decodeN; rw [if_pos h]
  rw [this, if_neg (by simp only []; omega)]; rfl
theorem next_2 {s : Bytes} {i : Nat} {b0 b1 : Nat} (e0 : (List.getD s i 0).toNat = b0) (e1 : (List.getD s (i + 1) 0).toNat = b1) (h : 192 ≤ b0 ∧ b0 < 224) (h1 : i + 1 < s.length ∧ 128 ≤ b1 ∧ b1 < 192) (hc : 128 ≤ 64 * (b0 - 192) + (b1 - 128)) :
    nextS s i = (((64 * (b0 - 192) + (b1 - 128) : Nat) : Int), 2) := by
  unfold nextS
  rw [dec_N, e0, e1]
  have : Go.Lib.decodeN (s.length - i) b0 b1 (List.getD s (i + 2) 0).toNat (List.getD s (i + 3) 0).toNat = (64 * (b0 - 192) + (b1 - 128), 2) := by
    unfold Go.Lib.decodeN; rw [if_neg (by omega), if_pos (by omega), if_pos (by omega)]; exact Prod.ext (by simp only []; omega) rfl
  rw [this, if_neg (by simp only []; omega)]; rfl
theorem next_3 {s : Bytes} {i : Nat} {b0 b1 b2 : Nat} (e0 : (List.getD s i 0).toNat = b0) (e1 : (List.getD s (i + 1) 0).toNat = b1) (e2 : (List.getD s (i + 2) 0).toNat = b2) (h : 224 ≤ b0 ∧ b0 < 240) (h1 : i + 2 < s.length ∧ 128 ≤ b1 ∧ b1 < 192) (h2 : 128 ≤ b2 ∧ b2 < 192)
    (hc : 2048 ≤ 4096 * (b0 - 224) + 64 * (b1 - 128) + (b2 - 128)) (hc2 : 4096 * (b0 - 224) + 64 * (b1 - 128) + (b2 - 128) < 55296 ∨ 57343 < 4096 * (b0 - 224) + 64 * (b1 - 128) + (b2 - 128)) :
    nextS s i = (((4096 * (b0 - 224) + 64 * (b1 - 128) + (b2 - 128) : Nat) : Int), 3) := by
  unfold nextS
  rw [dec_N, e0, e1, e2]
  have : Go.Lib.decodeN (s.length - i) b0 b1 b2 (List.getD s (i + 3) 0).toNat = (4096 * (b0 - 224) + 64 * (b1 - 128) + (b2 - 128), 3) := by
    unfold Go.Lib.decodeN; rw [if_neg (by omega), if_neg (by omega), if_pos (by omega), if_pos (by omega)]; exact Prod.ext (by simp only []; omega) rfl
  rw [this, if_neg (by simp only []; omega)]; rfl
theorem next_4 {s : Bytes} {i : Nat} {b0 b1 b2 b3 : Nat} (e0 : (List.getD s i 0).toNat = b0) (e1 : (List.getD s (i + 1) 0).toNat = b1) (e2 : (List.getD s (i + 2) 0).toNat = b2) (e3 : (List.getD s (i + 3) 0).toNat = b3) (h : 240 ≤ b0 ∧ b0 < 248) (h1 : i + 3 < s.length ∧ 128 ≤ b1 ∧ b1 < 192) (h2 : 128 ≤ b2 ∧ b2 < 192) (h3 : 128 ≤ b3 ∧ b3 < 192)
    (hc : 65536 ≤ 262144 * (b0 - 240) + 4096 * (b1 - 128) + 64 * (b2 - 128) + (b3 - 128)) (hc2 : 262144 * (b0 - 240) + 4096 * (b1 - 128) + 64 * (b2 - 128) + (b3 - 128) ≤ 1114111) :
    nextS s i = (((262144 * (b0 - 240) + 4096 * (b1 - 128) + 64 * (b2 - 128) + (b3 - 128) : Nat) : Int), 4) := by
  unfold nextS
  rw [dec_N, e0, e1, e2, e3]
  have : Go.Lib.decodeN (s.length - i) b0 b1 b2 b3 = (262144 * (b0 - 240) + 4096 * (b1 - 128) + 64 * (b2 - 128) + (b3 - 128), 4) := by
    unfold Go.Lib.decodeN; rw [if_neg (by omega), if_neg (by omega), if_neg (by omega), if_pos (by omega), if_pos (by omega)]; exact Prod.ext (by simp only []; omega) rfl
  rw [this, if_neg (by simp only []; omega)]; rfl
theorem next_bad {s : Bytes} {i : Nat} {b0 b1 b2 b3 : Nat} (hi : i < s.length) (e0 : (List.getD s i 0).toNat = b0) (e1 : (List.getD s (i + 1) 0).toNat = b1) (e2 : (List.getD s (i + 2) 0).toNat = b2) (e3 : (List.getD s (i + 3) 0).toNat = b3) (l0 : b0 < 256) (l1 : b1 < 256) (l2 : b2 < 256) (l3 : b3 < 256)
    (h1 : ¬ b0 < 128) (h2 : ¬ ((192 ≤ b0 ∧ b0 < 224) ∧ (i + 1 < s.length ∧ 128 ≤ b1 ∧ b1 < 192) ∧ 128 ≤ 64 * (b0 - 192) + (b1 - 128)))
    (h3 : ¬ ((224 ≤ b0 ∧ b0 < 240) ∧ (i + 1 < s.length ∧ 128 ≤ b1 ∧ b1 < 192) ∧ (i + 2 < s.length ∧ 128 ≤ b2 ∧ b2 < 192) ∧ 2048 ≤ 4096 * (b0 - 224) + 64 * (b1 - 128) + (b2 - 128) ∧ (4096 * (b0 - 224) + 64 * (b1 - 128) + (b2 - 128) < 55296 ∨ 57343 < 4096 * (b0 - 224) + 64 * (b1 - 128) + (b2 - 128))))
    (h4 : ¬ ((240 ≤ b0 ∧ b0 < 248) ∧ (i + 1 < s.length ∧ 128 ≤ b1 ∧ b1 < 192) ∧ (i + 2 < s.length ∧ 128 ≤ b2 ∧ b2 < 192) ∧ (i + 3 < s.length ∧ 128 ≤ b3 ∧ b3 < 192) ∧ 65536 ≤ 262144 * (b0 - 240) + 4096 * (b1 - 128) + 64 * (b2 - 128) + (b3 - 128) ∧ 262144 * (b0 - 240) + 4096 * (b1 - 128) + 64 * (b2 - 128) + (b3 - 128) ≤ 1114111)) :
    nextS s i = (-1, 1) := by
  unfold nextS
  rw [dec_N, e0, e1, e2, e3]
  have : Go.Lib.decodeN (s.length - i) b0 b1 b2 b3 = (65533, 1) := by
    rcases Go.Lib.decodeN_shape (s.length - i) b0 b1 b2 b3 with ⟨c, e⟩ | ⟨c1, c2, c3, cv, e⟩ | ⟨c1, c2, c3, c4, cv, cs, e⟩ | ⟨c1, c2, c3, c4, c5, cv, cw, e⟩ | e
    · exact absurd c h1
    · exfalso; apply h2; omega
    · exfalso; apply h3; omega
    · exfalso; apply h4; omega
    · exact e
  rw [this, if_pos ⟨rfl, rfl⟩]
theorem next_size {s : Bytes} {i : Nat} (h : i < s.length) : (nextS s i).2 = ((decS s i).2 : Int) := by
  unfold nextS
  split
  · rename_i q; rw [q.2]; rfl
  · rfl
def piecesS : Bytes → List Bytes
  | [] => [[]]
  | b :: s => if b = 47 then [] :: piecesS s else match piecesS s with
    | [] => [[b]]
    | p :: ps => (b :: p) :: ps
def joinS : List Bytes → Bytes
  | [] => []
  | [p] => p
  | p :: q :: l => p ++ 47 :: joinS (q :: l)
theorem pieces_ne (s : Bytes) : piecesS s ≠ [] := by
  cases s with
  | nil => simp [piecesS]
  | cons b s =>
    unfold piecesS
    split
    · simp
    · split <;> simp
theorem pieces_none : ∀ {a : Bytes}, (47 : UInt8) ∉ a → piecesS a = [a]
  | [], _ => rfl
  | b :: a, h => by
    simp only [List.mem_cons, not_or] at h
    unfold piecesS
    rw [if_neg (fun e => h.1 e.symm), pieces_none h.2]
theorem pieces_app : ∀ {a : Bytes} (s : Bytes), (47 : UInt8) ∉ a → piecesS (a ++ 47 :: s) = a :: piecesS s
  | [], s, _ => by simp [piecesS]
  | b :: a, s, h => by
    simp only [List.mem_cons, not_or] at h
    rw [List.cons_append, piecesS, if_neg (fun e => h.1 e.symm), pieces_app s h.2]
theorem pieces_len (s : Bytes) : (piecesS s).length = s.count 47 + 1 := by
  induction s with
  | nil => rfl
  | cons b s ih =>
    unfold piecesS
    by_cases e : b = 47
    · subst e; rw [if_pos rfl, List.length_cons, ih, List.count_cons_self]
    · rw [if_neg e, List.count_cons_of_ne e]
      cases hp : piecesS s with
      | nil => exact absurd hp (pieces_ne s)
      | cons p ps => rw [hp] at ih; simpa using ih
theorem join_pieces (s : Bytes) : joinS (piecesS s) = s := by
  induction s with
  | nil => rfl
  | cons b s ih =>
    unfold piecesS
    split
    · rename_i e
      subst e
      cases hp : piecesS s with
      | nil => exact absurd hp (pieces_ne s)
      | cons p ps => rw [hp] at ih; show [] ++ 47 :: joinS (p :: ps) = _; rw [ih]; rfl
    · split
      · rename_i hp; exact absurd hp (pieces_ne s)
      · rename_i p ps hp
        rw [hp] at ih
        cases ps with
        | nil => show b :: p = _; rw [show p = s from ih]
        | cons q ps => show (b :: p) ++ 47 :: joinS (q :: ps) = _; rw [← ih]; rfl
theorem pieces_one {s : Bytes} : (piecesS s).length = 1 ↔ (47 : UInt8) ∉ s := by
  rw [pieces_len, ← List.count_eq_zero]; omega
theorem index_none {s : Bytes} (h : Go.Lib.indexByte s 47 < 0) : (47 : UInt8) ∉ s := by
  induction s with
  | nil => simp
  | cons b s ih =>
    unfold Go.Lib.indexByte at h
    split at h
    · omega
    · rename_i hb
      have hg := Go.Lib.indexByte_ge s 47
      simp only [List.mem_cons, not_or]
      refine ⟨fun e => hb (by simp [e]), ih ?_⟩
      split at h
      · rename_i h1; simp only [beq_iff_eq] at h1; omega
      · omega
theorem index_some {s : Bytes} (h : 0 ≤ Go.Lib.indexByte s 47) : (Go.Lib.indexByte s 47).toNat < s.length ∧ (47 : UInt8) ∉ List.take (Go.Lib.indexByte s 47).toNat s ∧ s = List.take (Go.Lib.indexByte s 47).toNat s ++ 47 :: List.drop ((Go.Lib.indexByte s 47).toNat + 1) s := by
  induction s with
  | nil => simp [Go.Lib.indexByte] at h
  | cons b s ih =>
    unfold Go.Lib.indexByte at h ⊢
    by_cases hb : b = 47
    · subst hb; simp
    · have e1 : (b == (47 : UInt8)) = false := by simpa using hb
      rw [e1] at h ⊢
      simp only [Bool.false_eq_true, if_false] at h ⊢
      have hg := Go.Lib.indexByte_ge s 47
      by_cases h1 : Go.Lib.indexByte s 47 = -1
      · rw [h1] at h; simp at h
      · rw [if_neg (by simpa using h1)] at h ⊢
        obtain ⟨i1, i2, i3⟩ := ih (by omega)
        have e : (Go.Lib.indexByte s 47 + 1).toNat = (Go.Lib.indexByte s 47).toNat + 1 := by omega
        rw [e]
        refine ⟨by simp only [List.length_cons]; omega, ?_, ?_⟩
        · simp only [List.take_succ_cons, List.mem_cons, not_or]; exact ⟨fun q => hb q.symm, i2⟩
        · simp only [List.take_succ_cons, List.drop_succ_cons, List.cons_append]
          rw [← i3]
end AL.Rune
namespace AL.Route
open Go AL AL.Rune
set_option linter.unusedVariables false
set_option linter.unusedSimpArgs false
def runeOk (c : Int) : Bool :=
  (decide (97 ≤ c) && decide (c ≤ 122)) || (decide (65 ≤ c) && decide (c ≤ 90)) || (decide (48 ≤ c) && decide (c ≤ 57)) || decide (c = 45) || decide (c = 46) || decide (c = 95) || (decide (192 ≤ c) && decide (c ≤ 55295))
def okR (x : R) : Bool := runeOk (x.1 : Int)
def partS (s : Bytes) : Int :=
  if s = [] ∨ s = [46] ∨ s = [46, 46] ∨ s = [45] then 4 else if (runesS s).all okR = false then 4 else if 12 < (runesS s).length then 5 else 0
theorem part_1 {s : Bytes} (h : s = [] ∨ s = [46] ∨ s = [46, 46] ∨ s = [45]) : partS s = 4 := by unfold partS; rw [if_pos h]
theorem part_2 {s : Bytes} (h : (runesS s).all okR = false) : partS s = 4 := by unfold partS; split; rfl; rfl
theorem part_3 {s : Bytes} (h : ¬ (s = [] ∨ s = [46] ∨ s = [46, 46] ∨ s = [45])) (h2 : (runesS s).all okR = true) (h3 : 12 < (runesS s).length) : partS s = 5 := by
  unfold partS; rw [if_neg h, if_neg (by rw [h2]; decide), if_pos h3]
theorem part_4 {s : Bytes} (h : ¬ (s = [] ∨ s = [46] ∨ s = [46, 46] ∨ s = [45])) (h2 : (runesS s).all okR = true) (h3 : ¬ 12 < (runesS s).length) : partS s = 0 := by
  unfold partS; rw [if_neg h, if_neg (by rw [h2]; decide), if_neg h3]
def LeftAll (s : Bytes) (pos : Nat) : Prop := (runesS s).all okR = (runesS (List.drop pos s)).all okR
theorem left_0 (s : Bytes) : LeftAll s 0 := by unfold LeftAll; rw [List.drop_zero]
theorem left_ok {s : Bytes} {pos : Nat} (h : pos < s.length) (hA : LeftAll s pos) (hc : runeOk ((decS s pos).1 : Int) = true) : LeftAll s (pos + (decS s pos).2) := by
  unfold LeftAll at *
  rw [hA, runes_at h, List.all_cons]
  show (runeOk ((decS s pos).1 : Int) && _) = _
  rw [hc, Bool.true_and]
theorem left_bad {s : Bytes} {pos : Nat} (h : pos < s.length) (hA : LeftAll s pos) (hc : runeOk ((decS s pos).1 : Int) = false) : (runesS s).all okR = false := by
  unfold LeftAll at hA
  rw [hA, runes_at h, List.all_cons]
  show (runeOk ((decS s pos).1 : Int) && _) = _
  rw [hc, Bool.false_and]
theorem left_end {s : Bytes} {pos : Nat} (h : s.length ≤ pos) (hA : LeftAll s pos) : (runesS s).all okR = true := by
  unfold LeftAll at hA
  rw [hA, runes_end h]; rfl
def LeftN (s : Bytes) (pos n : Nat) : Prop := (runesS s).length = n + (runesS (List.drop pos s)).length
theorem leftN_0 (s : Bytes) : LeftN s 0 0 := by unfold LeftN; rw [List.drop_zero]; omega
theorem leftN_step {s : Bytes} {pos n : Nat} (h : pos < s.length) (hN : LeftN s pos n) : LeftN s (pos + (decS s pos).2) (n + 1) := by
  unfold LeftN at *
  rw [hN, runes_at h, List.length_cons]; omega
theorem leftN_end {s : Bytes} {pos n : Nat} (h : s.length ≤ pos) (hN : LeftN s pos n) : (runesS s).length = n := by
  unfold LeftN at hN
  rw [hN, runes_end h]; rfl
theorem leftN_le {s : Bytes} {pos n : Nat} (hN : LeftN s pos n) : n ≤ s.length := by
  have := runes_len s
  unfold LeftN at hN; omega
theorem ok_next {s : Bytes} {pos : Nat} : runeOk (nextS s pos).1 = runeOk ((decS s pos).1 : Int) := by
  unfold nextS
  split
  · rename_i h; rw [h.1]; rfl
  · rfl
def gradedS (l : List Bytes) : Int :=
  if l.any (fun p => decide (partS p = 4)) = true then 4 else if l.any (fun p => decide (partS p = 5)) = true then 5 else if 6 < l.length then 24 else 0
def checkS (s : Bytes) : Int := if 64 < s.length then 5 else gradedS (piecesS s)
def partsS (s : Bytes) : List Bytes × Int := if checkS s = 0 then (piecesS s, 0) else ([], checkS s)
theorem graded_hit {l : List Bytes} {k : Nat} (hk : k < l.length) (h : partS (List.getD l k []) = 4) : gradedS l = 4 := by
  unfold gradedS
  rw [if_pos (List.any_eq_true.2 ⟨_, AL.Lib.getD_mem [] l k hk, decide_eq_true h⟩)]
def worstS (l : List Bytes) : Int := if l.any (fun p => decide (partS p = 5)) = true then 5 else 0
theorem worst_step (l : List Bytes) (k : Nat) (hk : k < l.length) : worstS (List.take (k + 1) l) = if partS (List.getD l k []) = 5 then 5 else worstS (List.take k l) := by
  unfold worstS
  rw [AL.Lib.take_succ [] l k hk, List.any_append]
  by_cases h : partS (List.getD l k []) = 5
  · rw [if_pos h, if_pos (by simp only [List.any_cons, List.any_nil, h]; simp)]
  · rw [if_neg h]; simp only [List.any_cons, List.any_nil, decide_eq_false h, Bool.or_false]
theorem graded_end {l : List Bytes} (h : ∀ k, k < l.length → partS (List.getD l k []) ≠ 4) : gradedS l = if worstS l = 0 then (if 6 < l.length then 24 else 0) else worstS l := by
  have h0 : l.any (fun p => decide (partS p = 4)) = false := by
    rw [List.any_eq_false]
    intro p hp
    obtain ⟨i, hi, rfl⟩ := List.mem_iff_getElem.1 hp
    have := h i hi
    rw [AL.Lib.getD_lt [] l i hi] at this
    simpa using this
  unfold gradedS worstS
  rw [if_neg (by rw [h0]; decide)]
  split
  · rfl
  · rfl
def PInv (s : Bytes) (i f : Nat) (o : List Bytes) : Prop :=
  (i ≤ s.length ∧ f ≤ i ∧ (47 : UInt8) ∉ List.drop f (List.take i s) ∧ piecesS s = o ++ piecesS (List.drop f s)) ∨ (i = s.length + 1 ∧ f = i ∧ piecesS s = o)
theorem pinv_0 (s : Bytes) : PInv s 0 0 [] := .inl ⟨Nat.zero_le _, Nat.le_refl _, by simp, by simp⟩
theorem pinv_len {s : Bytes} {i f : Nat} {o : List Bytes} (h : PInv s i f o) : o.length ≤ s.length + 1 ∧ f ≤ i ∧ i ≤ s.length + 1 := by
  have h1 := pieces_len s
  have h2 : s.count 47 ≤ s.length := List.count_le_length
  rcases h with ⟨a, b, c, d⟩ | ⟨a, b, d⟩
  · have := congrArg List.length d
    rw [List.length_append] at this; omega
  · have := congrArg List.length d; omega
theorem seg_split {s : Bytes} {i f : Nat} (hi : i < s.length) (hf : f ≤ i) : List.drop f s = List.drop f (List.take i s) ++ List.getD s i 0 :: List.drop (i + 1) s := by
  conv => lhs; rw [show s = List.take i s ++ List.drop i s from (List.take_append_drop i s).symm]
  rw [List.drop_append_of_le_length (by rw [List.length_take]; omega), AL.Lib.drop_cons 0 s i hi]
theorem pinv_hit {s : Bytes} {i f : Nat} {o : List Bytes} (h : PInv s i f o) (hi : i ≤ s.length) (hc : i = s.length ∨ (List.getD s i 0).toNat = 47) : PInv s (i + 1) (i + 1) (o ++ [List.drop f (List.take i s)]) := by
  rcases h with ⟨a, b, c, d⟩ | ⟨a, b, d⟩
  · by_cases e : i = s.length
    · right
      refine ⟨by omega, rfl, ?_⟩
      rw [d]
      have : List.drop f (List.take i s) = List.drop f s := by rw [List.take_of_length_le (by omega)]
      rw [this] at c ⊢
      rw [pieces_none c]
    · left
      have hl : i < s.length := by omega
      have h47 : List.getD s i 0 = 47 := UInt8.toNat_inj.1 (by simpa using hc.resolve_left e)
      refine ⟨by omega, Nat.le_refl _, by rw [List.drop_of_length_le (by rw [List.length_take]; omega)]; simp, ?_⟩
      rw [d, seg_split hl b, h47, pieces_app _ c, List.append_assoc]; rfl
  · omega
theorem pinv_not {s : Bytes} {i f : Nat} {o : List Bytes} (h : PInv s i f o) (hi : i ≤ s.length) (hc : ¬ (i = s.length ∨ (List.getD s i 0).toNat = 47)) : PInv s (i + 1) f o := by
  rcases h with ⟨a, b, c, d⟩ | ⟨a, b, d⟩
  · have hl : i < s.length := by omega
    refine .inl ⟨by omega, by omega, ?_, d⟩
    rw [AL.Lib.take_succ 0 s i hl, List.drop_append_of_le_length (by rw [List.length_take]; omega), List.mem_append, not_or]
    refine ⟨c, fun q => hc (.inr ?_)⟩
    rw [← List.mem_singleton.1 q]; rfl
  · omega
theorem pinv_end {s : Bytes} {i f : Nat} {o : List Bytes} (h : PInv s i f o) (hi : s.length < i) : piecesS s = o := by
  rcases h with ⟨a, b, c, d⟩ | ⟨a, b, d⟩
  · omega
  · exact d
theorem split_n (s : Bytes) : (min (((s.count 47 : Nat) : Int) + 1) ((List.length s : Int) + 1)).toNat = (piecesS s).length := by
  have h1 := pieces_len s
  have h2 : s.count 47 ≤ s.length := List.count_le_length
  omega
theorem split_more {c : Bytes} (h : 0 ≤ Go.Lib.indexByte c 47) : piecesS c = List.take (Go.Lib.indexByte c 47).toNat c :: piecesS (List.drop ((Go.Lib.indexByte c 47).toNat + 1) c) := by
  obtain ⟨h1, h2, h3⟩ := index_some h
  conv => lhs; rw [h3]
  rw [pieces_app _ h2]
theorem set_rep (o : List Bytes) (k : Nat) (x : Bytes) : List.set (o ++ List.replicate (k + 1) []) o.length x = (o ++ [x]) ++ List.replicate k [] := by
  rw [List.set_append_right _ _ (Nat.le_refl _), Nat.sub_self, List.replicate_succ, List.set_cons_zero, List.append_assoc]; rfl
theorem split_step {o : List Bytes} {c : Bytes} (h : 0 ≤ Go.Lib.indexByte c 47) (x : Bytes) :
    List.set (o ++ List.replicate (piecesS c).length []) o.length x = (o ++ [x]) ++ List.replicate (piecesS (List.drop ((Go.Lib.indexByte c 47).toNat + 1) c)).length [] := by
  rw [split_more h, List.length_cons, set_rep]
theorem split_inv {s c : Bytes} {o : List Bytes} (hP : piecesS s = o ++ piecesS c) (h : 0 ≤ Go.Lib.indexByte c 47) : piecesS s = (o ++ [List.take (Go.Lib.indexByte c 47).toNat c]) ++ piecesS (List.drop ((Go.Lib.indexByte c 47).toNat + 1) c) := by
  rw [hP, split_more h, List.append_assoc]; rfl
theorem split_last {s c : Bytes} {o : List Bytes} (hP : piecesS s = o ++ piecesS c) (h : ¬ (o.length : Int) < ((piecesS s).length : Int) - 1) : (47 : UInt8) ∉ c := by
  have := congrArg List.length hP
  rw [List.length_append] at this
  have h1 := pieces_len c
  exact pieces_one.1 (by omega)
theorem split_end {s c : Bytes} {o : List Bytes} (hP : piecesS s = o ++ piecesS c) (hc : (47 : UInt8) ∉ c) : List.take (o.length + 1) (List.set (o ++ List.replicate (piecesS c).length []) o.length c) = piecesS s := by
  rw [hP, pieces_none hc]
  show List.take (o.length + 1) (List.set (o ++ List.replicate (0 + 1) []) o.length c) = _
  rw [set_rep]
  rw [List.replicate_zero, List.append_nil, List.take_of_length_le (by simp)]
theorem split_le {s c : Bytes} {o : List Bytes} (hP : piecesS s = o ++ piecesS c) : o.length + (piecesS c).length = (piecesS s).length ∧ (piecesS s).length ≤ s.length + 1 ∧ 1 ≤ (piecesS c).length := by
  have h0 := congrArg List.length hP
  have h1 := pieces_len s
  have h2 : s.count 47 ≤ s.length := List.count_le_length
  have h3 := pieces_len c
  rw [List.length_append] at h0
  omega
def longS (l : List Bytes) : Bool := l.any fun p => decide (partS p = 5)
theorem long_step (l : List Bytes) (k : Nat) (hk : k < l.length) : (longS (List.take k l) || decide (partS (List.getD l k []) = 5)) = longS (List.take (k + 1) l) := by
  rw [AL.Lib.take_succ [] l k hk]; unfold longS; simp
theorem worst_long (l : List Bytes) : worstS l = if longS l = true then 5 else 0 := rfl
theorem graded_5 {l : List Bytes} (h : ∀ k, k < l.length → partS (List.getD l k []) ≠ 4) (hl : longS l = true) : gradedS l = 5 := by
  rw [graded_end h, worst_long, if_pos hl, if_neg (by decide)]
theorem graded_24 {l : List Bytes} (h : ∀ k, k < l.length → partS (List.getD l k []) ≠ 4) (hl : longS l = false) (h6 : 6 < l.length) : gradedS l = 24 := by
  have hw : worstS l = 0 := by rw [worst_long, hl]; rfl
  rw [graded_end h, hw, if_pos rfl, if_pos h6]
theorem graded_0 {l : List Bytes} (h : ∀ k, k < l.length → partS (List.getD l k []) ≠ 4) (hl : longS l = false) (h6 : ¬ 6 < l.length) : gradedS l = 0 := by
  have hw : worstS l = 0 := by rw [worst_long, hl]; rfl
  rw [graded_end h, hw, if_pos rfl, if_neg h6]
theorem parts_2 (s : Bytes) : (partsS s).2 = checkS s := by
  unfold partsS
  split
  · rename_i h; exact h.symm
  · rfl
theorem check_big {s : Bytes} (h : 64 < s.length) : checkS s = 5 := by unfold checkS; rw [if_pos h]
theorem check_small {s : Bytes} (h : ¬ 64 < s.length) : checkS s = gradedS (piecesS s) := by unfold checkS; rw [if_neg h]
theorem parts_ok {s : Bytes} (h : checkS s = 0) : partsS s = (piecesS s, 0) := by unfold partsS; rw [if_pos h]
theorem parts_no {s : Bytes} (h : checkS s ≠ 0) : partsS s = ([], checkS s) := by unfold partsS; rw [if_neg h]
theorem piece_le {s p : Bytes} (h : p ∈ piecesS s) : p.length ≤ s.length := by
  have hj := join_pieces s
  have : ∀ (l : List Bytes), p ∈ l → p.length ≤ (joinS l).length := by
    intro l
    induction l with
    | nil => intro h; cases h
    | cons q l ih =>
      intro h
      cases l with
      | nil => rw [List.mem_singleton.1 h]; exact Nat.le_refl _
      | cons r l =>
        show p.length ≤ (q ++ 47 :: joinS (r :: l)).length
        rw [List.length_append, List.length_cons]
        rcases List.mem_cons.1 h with rfl | h
        · omega
        · have := ih h; omega
  have h2 := this _ h
  rw [hj] at h2; exact h2
end AL.Route
namespace AL.Rows
open Go AL
set_option linter.unusedVariables false
set_option linter.unusedSimpArgs false
def nameB (b : UInt8) : Bool := (decide (97 ≤ b.toNat) && decide (b.toNat ≤ 122)) || (decide (48 ≤ b.toNat) && decide (b.toNat ≤ 57))
theorem nameB_iff {b : UInt8} : nameB b = true ↔ (97 ≤ b.toNat ∧ b.toNat ≤ 122) ∨ (48 ≤ b.toNat ∧ b.toNat ≤ 57) := by
  unfold nameB
  simp only [Bool.or_eq_true, Bool.and_eq_true, decide_eq_true_eq]
def namedS (s : Bytes) : Bool := decide (1 ≤ s.length) && (decide (s.length ≤ 8) && s.all nameB)
theorem named_size {s : Bytes} (h : s = [] ∨ 8 < s.length) : namedS s = false := by
  unfold namedS
  rcases h with h | h
  · subst h; rfl
  · rw [decide_eq_false (p := s.length ≤ 8) (by omega)]; simp
def LeftNm (s : Bytes) (pos : Nat) : Prop := s.all nameB = (List.drop pos s).all nameB
theorem nm_0 (s : Bytes) : LeftNm s 0 := by unfold LeftNm; rw [List.drop_zero]
theorem nm_byte {s : Bytes} {pos : Nat} (h : pos < s.length) (hN : LeftNm s pos) (hb : nameB (List.getD s pos 0) = true) : LeftNm s (pos + 1) := by
  unfold LeftNm at *
  rw [hN, Lib.drop_cons 0 s pos h, List.all_cons, hb, Bool.true_and]
theorem nm_not {s : Bytes} {pos : Nat} (h : pos < s.length) (hb : nameB (List.getD s pos 0) = false) : namedS s = false := by
  unfold namedS
  have : s.all nameB = false := by
    rw [List.all_eq_false]
    exact ⟨_, Lib.getD_mem 0 s pos h, by rw [hb]; decide⟩
  rw [this]; simp
theorem nm_end {s : Bytes} {pos : Nat} (h : s.length ≤ pos) (hN : LeftNm s pos) (h1 : ¬ s = []) (h2 : ¬ 8 < s.length) : namedS s = true := by
  unfold LeftNm at hN
  rw [List.drop_of_length_le h] at hN
  unfold namedS
  have hl := List.length_pos_iff.2 h1
  rw [hN, decide_eq_true (by omega), decide_eq_true (by omega)]
  rfl
theorem dec_low {s : Bytes} {pos : Nat} (h : pos < s.length) (hb : (List.getD s pos 0).toNat < 128) : decS s pos = ((List.getD s pos 0).toNat, 1) := by
  rw [Rune.dec_N]
  unfold Go.Lib.decodeN
  rw [if_pos hb]
theorem dec_high {s : Bytes} {pos : Nat} (h : pos < s.length) (hb : ¬ (List.getD s pos 0).toNat < 128) : 128 ≤ (decS s pos).1 := by
  rw [Rune.dec_N]
  have q0 := Rune.byte_lt s pos
  unfold Go.Lib.decodeN
  rw [if_neg hb]
  repeat' split
  all_goals (simp only []; omega)
theorem nm_step {s : Bytes} {pos : Nat} (h : pos < s.length) (hN : LeftNm s pos) (hc : ¬ ((((decS s pos).1 : Int) < 97 ∨ 122 < ((decS s pos).1 : Int)) ∧ (((decS s pos).1 : Int) < 48 ∨ 57 < ((decS s pos).1 : Int)))) : LeftNm s (pos + (decS s pos).2) := by
  by_cases hb : (List.getD s pos 0).toNat < 128
  · rw [dec_low h hb] at hc ⊢
    refine nm_byte h hN (nameB_iff.2 ?_)
    simp only [] at hc
    omega
  · have := dec_high h hb
    omega
theorem nm_bad {s : Bytes} {pos : Nat} (h : pos < s.length) (hc : (((decS s pos).1 : Int) < 97 ∨ 122 < ((decS s pos).1 : Int)) ∧ (((decS s pos).1 : Int) < 48 ∨ 57 < ((decS s pos).1 : Int))) : namedS s = false := by
  refine nm_not h ?_
  rw [Bool.eq_false_iff]
  intro hb
  have hb := nameB_iff.1 hb
  rw [dec_low h (by omega)] at hc
  simp only [] at hc
  omega
abbrev KeyV := Int × Bytes × Int
def MayK (k : KeyV) : Prop :=
  (k.1 = 1 ∧ Route.checkS k.2.1 = 0 ∧ k.2.2 = 0) ∨ (k.1 = 2 ∧ Route.checkS k.2.1 = 0 ∧ 1 ≤ k.2.2 ∧ k.2.2 ≤ 30) ∨ (k.1 = 3 ∧ namedS k.2.1 = true ∧ k.2.2 = 0) ∨ ((k.1 = 4 ∨ k.1 = 5) ∧ k.2.1 = [] ∧ k.2.2 = 0)
instance (k : KeyV) : Decidable (MayK k) := inferInstanceAs (Decidable (_ ∨ _))
def checkK (k : KeyV) : Int := if k.1 < 1 ∨ 5 < k.1 then 22 else if MayK k then 0 else 2
theorem check_ok {k : KeyV} (h : MayK k) : checkK k = 0 := by
  unfold checkK
  rw [if_neg (by unfold MayK at h; omega), if_pos h]
theorem check_may {k : KeyV} : checkK k = 0 ↔ MayK k := by
  refine ⟨fun h => ?_, check_ok⟩
  unfold checkK at h
  split at h
  · omega
  · split at h
    · assumption
    · omega
end AL.Rows
namespace AL.Under
open Go AL
set_option linter.unusedVariables false
set_option linter.unusedSimpArgs false
abbrev slS (l : List Bytes) : SC := .sl 1 Bytes [] AL.Fnv.rowS l
def hasP (s p : Bytes) : Bool := p.isPrefixOf s
def trimP (s p : Bytes) : Bytes := if hasP s p then s.drop p.length else s
def restS (s top : Bytes) : Bytes × Bool := if top = [] then (s, !decide (s = [])) else if hasP s top then (trimP (trimP s top) [47], hasP (trimP s top) [47]) else ([], false)
def belowS (s top : Bytes) : Bool := (restS s top).2
def withinS (s top : Bytes) : Bool := decide (s = top) || belowS s top
def longS (s : Bytes) (l : List Bytes) : Nat → Int
  | 0 => -1
  | k + 1 => if withinS s (List.getD l k []) && (decide (longS s l k < 0) || decide ((List.length (List.getD l (longS s l k).toNat []) : Int) < (List.length (List.getD l k []) : Int))) then (k : Int) else longS s l k
def longestS (s : Bytes) (l : List Bytes) : Int := longS s l l.length
theorem hasP_iff {s p : Bytes} : hasP s p = true ↔ p <+: s := by unfold hasP; exact List.isPrefixOf_iff_prefix
theorem pre_drop {s p q : Bytes} (h : p <+: s) : (p ++ q <+: s) ↔ q <+: s.drop p.length := by
  obtain ⟨r, rfl⟩ := h
  rw [List.drop_left]
  constructor
  · rintro ⟨t, ht⟩
    rw [List.append_assoc] at ht
    exact ⟨t, List.append_cancel_left ht⟩
  · rintro ⟨t, rfl⟩
    exact ⟨t, by rw [List.append_assoc]⟩
theorem rest_two {s top : Bytes} (h : top ≠ []) : (restS s top).2 = true ↔ top ++ [47] <+: s := by
  unfold restS
  rw [if_neg h]
  by_cases hp : hasP s top = true
  · rw [if_pos hp]
    have : trimP s top = s.drop top.length := by unfold trimP; rw [if_pos hp]
    rw [this, hasP_iff, pre_drop (hasP_iff.1 hp)]
  · rw [if_neg hp]
    constructor
    · intro h; cases h
    · intro h; exact absurd (hasP_iff.2 ((List.prefix_append _ _).trans h)) hp
theorem below_iff {s top : Bytes} : belowS s top = true ↔ s ≠ top ∧ (top = [] ∨ top ++ [47] <+: s) := by
  by_cases h : top = []
  · subst h
    unfold belowS restS
    simp
  · unfold belowS
    rw [rest_two h]
    constructor
    · intro hp
      refine ⟨fun e => ?_, .inr hp⟩
      subst e
      have := hp.length_le
      simp at this
      try omega
    · rintro ⟨_, hp | hp⟩
      · exact absurd hp h
      · exact hp
theorem within_iff {s top : Bytes} : withinS s top = true ↔ s = top ∨ top = [] ∨ top ++ [47] <+: s := by
  unfold withinS
  rw [Bool.or_eq_true, decide_eq_true_eq, below_iff]
  by_cases h : s = top <;> simp [h]
theorem within_ref (s top : Bytes) : (decide (top = []) || decide (s = top) || hasP s (top ++ [47])) = withinS s top := by
  rw [Bool.eq_iff_iff, within_iff, Bool.or_eq_true, Bool.or_eq_true, decide_eq_true_eq, decide_eq_true_eq, hasP_iff]
  constructor
  · rintro ((h | h) | h) <;> simp [h]
  · rintro (h | h | h) <;> simp [h]
theorem bl (x y : Bytes) : Op.bytesLess x y = decide (x < y) := Go.Proofs.bytesLess_eq x y
def Rise (l : List Bytes) : Prop := l.Pairwise (· < ·)
theorem lt_of_not {x y : Bytes} (h1 : ¬ x < y) (h2 : x ≠ y) : y < x := by
  by_cases h : y < x
  · exact h
  · exact absurd (List.le_antisymm (List.not_lt.1 h) (List.not_lt.1 h1)) h2
theorem rise_eq : ∀ {l m : List Bytes}, Rise l → Rise m → (∀ x, x ∈ l ↔ x ∈ m) → l = m := by
  intro l
  induction l with
  | nil =>
    intro m _ _ h
    cases m with
    | nil => rfl
    | cons y m => exact absurd ((h y).2 (by simp)) (by simp)
  | cons x l ih =>
    intro m hl hm h
    cases m with
    | nil => exact absurd ((h x).1 (by simp)) (by simp)
    | cons y m =>
      obtain ⟨h1, h2⟩ := List.pairwise_cons.1 hl
      obtain ⟨h3, h4⟩ := List.pairwise_cons.1 hm
      have e : x = y := by
        have hx := (h x).1 (by simp)
        have hy := (h y).2 (by simp)
        rcases List.mem_cons.1 hx with hx | hx
        · exact hx
        · rcases List.mem_cons.1 hy with hy | hy
          · exact hy.symm
          · exact absurd (List.lt_trans (h1 y hy) (h3 x hx)) (List.lt_irrefl x)
      subst e
      congr 1
      refine ih h2 h4 fun z => ?_
      constructor
      · intro hz
        rcases List.mem_cons.1 ((h z).1 (List.mem_cons_of_mem _ hz)) with e | e
        · subst e; exact absurd (h1 z hz) (List.lt_irrefl z)
        · exact e
      · intro hz
        rcases List.mem_cons.1 ((h z).2 (List.mem_cons_of_mem _ hz)) with e | e
        · subst e; exact absurd (h3 z hz) (List.lt_irrefl z)
        · exact e
theorem long_lt (s : Bytes) (l : List Bytes) : ∀ k, -1 ≤ longS s l k ∧ longS s l k < k := by
  intro k
  induction k with
  | zero => simp [longS]
  | succ k ih => unfold longS; split <;> omega
theorem long_step (s : Bytes) (l : List Bytes) (k : Nat) : longS s l (k + 1) = if withinS s (List.getD l k []) && (decide (longS s l k < 0) || decide ((List.length (List.getD l (longS s l k).toNat []) : Int) < (List.length (List.getD l k []) : Int))) then (k : Int) else longS s l k := rfl
def sizeS (l : List Bytes) (o : Int) : Int := if o < 0 then -1 else ((List.getD l o.toNat []).length : Int)
theorem size_test (l : List Bytes) (o : Int) (n : Nat) : decide (sizeS l o < (n : Int)) = (decide (o < 0) || decide ((List.length (List.getD l o.toNat []) : Int) < (n : Int))) := by
  unfold sizeS
  by_cases h : o < 0
  · rw [if_pos h, decide_eq_true h, decide_eq_true (by omega)]; rfl
  · rw [if_neg h, decide_eq_false h, Bool.false_or]
theorem size_k (l : List Bytes) (k : Nat) : sizeS l (k : Int) = (List.length (List.getD l k []) : Int) := by
  unfold sizeS; rw [if_neg (by omega)]; rfl
theorem long_t {s : Bytes} {l : List Bytes} {k : Nat} (h1 : withinS s (List.getD l k []) = true) (h2 : sizeS l (longS s l k) < (List.length (List.getD l k []) : Int)) : longS s l (k + 1) = k := by
  have h3 := decide_eq_true h2
  rw [size_test] at h3
  rw [long_step, h1, h3]; rfl
theorem long_f {s : Bytes} {l : List Bytes} {k : Nat} (h : ¬ (sizeS l (longS s l k) < (List.length (List.getD l k []) : Int) ∧ withinS s (List.getD l k []) = true)) : longS s l (k + 1) = longS s l k := by
  rw [long_step, ← size_test, if_neg]
  intro q
  rw [Bool.and_eq_true, decide_eq_true_eq] at q
  exact h ⟨q.2, q.1⟩
theorem hasP_long {s t : Bytes} (h : s.length < t.length) : hasP s t = false := by
  cases e : hasP s t with
  | false => rfl
  | true => have := (hasP_iff.1 e).length_le; omega
theorem byte_inj {a b : UInt8} (h : ((a.toNat : Nat) : Int) = (b.toNat : Int)) : a = b := UInt8.toNat_inj.1 (by omega)
theorem hasP_ne {s t : Bytes} {i : Nat} (hi : i < t.length) (h : ¬ ((List.getD s i 0).toNat : Int) = ((List.getD t i 0).toNat : Int)) : hasP s t = false := by
  cases e : hasP s t with
  | false => rfl
  | true =>
    exfalso; apply h
    obtain ⟨r, rfl⟩ := hasP_iff.1 e
    rw [List.getD_eq_getElem?_getD, List.getElem?_append_left hi, ← List.getD_eq_getElem?_getD]
theorem hasP_end {s t : Bytes} {i : Nat} (hi : t.length ≤ i) (hs : t.length ≤ s.length) (he : List.take i s = List.take i t) : hasP s t = true := by
  rw [List.take_of_length_le hi] at he
  exact hasP_iff.2 (by rw [← he]; exact List.take_prefix _ _)
theorem take_byte {a b : Bytes} {k : Nat} (ha : k < a.length) (hb : k < b.length) (he : List.take k a = List.take k b) (h : ((List.getD a k 0).toNat : Int) = ((List.getD b k 0).toNat : Int)) : List.take (k + 1) a = List.take (k + 1) b :=
  AL.Lib.same_step 0 a b k ha hb he (byte_inj h)
end AL.Under
namespace AL.Sep
open Go AL
set_option linter.unusedVariables false
def splitC (c : UInt8) : Bytes → List Bytes
  | [] => [[]]
  | b :: s => if b = c then [] :: splitC c s else match splitC c s with
    | [] => [[b]]
    | p :: ps => (b :: p) :: ps
def joinC (c : UInt8) : List Bytes → Bytes
  | [] => []
  | [p] => p
  | p :: q :: l => p ++ c :: joinC c (q :: l)
theorem split_ne (c : UInt8) (s : Bytes) : splitC c s ≠ [] := by
  cases s with
  | nil => simp [splitC]
  | cons b s =>
    unfold splitC
    split
    · simp
    · split <;> simp
theorem split_none {c : UInt8} : ∀ {a : Bytes}, c ∉ a → splitC c a = [a]
  | [], _ => rfl
  | b :: a, h => by
    simp only [List.mem_cons, not_or] at h
    unfold splitC
    rw [if_neg (fun e => h.1 e.symm), split_none h.2]
theorem split_app {c : UInt8} : ∀ {a : Bytes} (s : Bytes), c ∉ a → splitC c (a ++ c :: s) = a :: splitC c s
  | [], s, _ => by simp [splitC]
  | b :: a, s, h => by
    simp only [List.mem_cons, not_or] at h
    rw [List.cons_append, splitC, if_neg (fun e => h.1 e.symm), split_app s h.2]
theorem split_len (c : UInt8) (s : Bytes) : (splitC c s).length = s.count c + 1 := by
  induction s with
  | nil => rfl
  | cons b s ih =>
    unfold splitC
    by_cases e : b = c
    · rw [e, if_pos rfl, List.length_cons, ih, List.count_cons_self]
    · rw [if_neg e, List.count_cons_of_ne e]
      cases hp : splitC c s with
      | nil => exact absurd hp (split_ne c s)
      | cons p ps => rw [hp] at ih; simpa using ih
theorem join_split (c : UInt8) (s : Bytes) : joinC c (splitC c s) = s := by
  induction s with
  | nil => rfl
  | cons b s ih =>
    unfold splitC
    split
    · rename_i e
      rw [e]
      cases hp : splitC c s with
      | nil => exact absurd hp (split_ne c s)
      | cons p ps => rw [hp] at ih; show [] ++ c :: joinC c (p :: ps) = _; rw [ih]; rfl
    · split
      · rename_i hp; exact absurd hp (split_ne c s)
      · rename_i p ps hp
        rw [hp] at ih
        cases ps with
        | nil => show b :: p = _; rw [show p = s from ih]
        | cons q ps => show (b :: p) ++ c :: joinC c (q :: ps) = _; rw [← ih]; rfl
theorem split_one {c : UInt8} {s : Bytes} : (splitC c s).length = 1 ↔ c ∉ s := by
  rw [split_len, ← List.count_eq_zero]; omega
theorem index_none {c : UInt8} {s : Bytes} (h : Go.Lib.indexByte s c < 0) : c ∉ s := by
  induction s with
  | nil => simp
  | cons b s ih =>
    unfold Go.Lib.indexByte at h
    split at h
    · omega
    · rename_i hb
      have hg := Go.Lib.indexByte_ge s c
      simp only [List.mem_cons, not_or]
      refine ⟨fun e => hb (by simp [e]), ih ?_⟩
      split at h
      · rename_i h1; simp only [beq_iff_eq] at h1; omega
      · omega
theorem index_some {c : UInt8} {s : Bytes} (h : 0 ≤ Go.Lib.indexByte s c) : (Go.Lib.indexByte s c).toNat < s.length ∧ c ∉ List.take (Go.Lib.indexByte s c).toNat s ∧ s = List.take (Go.Lib.indexByte s c).toNat s ++ c :: List.drop ((Go.Lib.indexByte s c).toNat + 1) s := by
  induction s with
  | nil => simp [Go.Lib.indexByte] at h
  | cons b s ih =>
    unfold Go.Lib.indexByte at h ⊢
    by_cases hb : b = c
    · rw [hb]; simp
    · have e1 : (b == c) = false := by simpa using hb
      rw [e1] at h ⊢
      simp only [Bool.false_eq_true, if_false] at h ⊢
      have hg := Go.Lib.indexByte_ge s c
      by_cases h1 : Go.Lib.indexByte s c = -1
      · rw [h1] at h; simp at h
      · rw [if_neg (by simpa using h1)] at h ⊢
        obtain ⟨i1, i2, i3⟩ := ih (by omega)
        have e : (Go.Lib.indexByte s c + 1).toNat = (Go.Lib.indexByte s c).toNat + 1 := by omega
        rw [e]
        refine ⟨by simp only [List.length_cons]; omega, ?_, ?_⟩
        · simp only [List.take_succ_cons, List.mem_cons, not_or]; exact ⟨fun q => hb q.symm, i2⟩
        · simp only [List.take_succ_cons, List.drop_succ_cons, List.cons_append]
          rw [← i3]
theorem index_rng (c : UInt8) (s : Bytes) : -1 ≤ Go.Lib.indexByte s c ∧ Go.Lib.indexByte s c < (s.length : Int) := by
  refine ⟨Go.Lib.indexByte_ge s c, ?_⟩
  by_cases h : 0 ≤ Go.Lib.indexByte s c
  · have := (index_some h).1; omega
  · omega
theorem mem_len {c : UInt8} {s p : Bytes} (h : p ∈ splitC c s) : p.length ≤ s.length := by
  have key : ∀ (l : List Bytes), p ∈ l → p.length ≤ (joinC c l).length := by
    intro l
    induction l with
    | nil => intro h; cases h
    | cons q l ih =>
      intro h
      cases l with
      | nil => rw [List.mem_singleton.1 h]; exact Nat.le_refl _
      | cons r l =>
        show _ ≤ (q ++ c :: joinC c (r :: l)).length
        simp only [List.length_append, List.length_cons]
        rcases List.mem_cons.1 h with rfl | h
        · omega
        · have := ih h; omega
  have := key _ h
  rwa [join_split] at this
theorem fill_set {α : Type} (d : α) (l : List α) (i : Nat) (h : i < l.length) : List.set (List.take i l ++ List.replicate (l.length - i) d) i (List.getD l i d) = List.take (i + 1) l ++ List.replicate (l.length - (i + 1)) d := by
  rw [Lib.take_succ d l i h, List.append_assoc, List.set_append_right _ _ (by rw [List.length_take]; omega), List.length_take, show i - min i l.length = 0 by omega, show l.length - i = (l.length - (i + 1)) + 1 by omega, List.replicate_succ]
  rfl
theorem join_count (c : UInt8) : ∀ (l : List Bytes), l.length ≤ (joinC c l).length + 1
  | [] => by simp
  | [p] => by simp
  | p :: q :: l => by
    have ih := join_count c (q :: l)
    show (p :: q :: l).length ≤ (p ++ c :: joinC c (q :: l)).length + 1
    simp only [List.length_cons, List.length_append] at ih ⊢
    omega
theorem join_max {c : UInt8} {n : Nat} : ∀ (l : List Bytes), (∀ p ∈ l, p.length ≤ n) → (joinC c l).length ≤ l.length * (n + 1)
  | [], _ => by simp [joinC]
  | [p], h => by have := h p (by simp); simp [joinC]; omega
  | p :: q :: l, h => by
    have ih := join_max (c := c) (q :: l) (fun x hx => h x (List.mem_cons_of_mem _ hx))
    have := h p (by simp)
    show (p ++ c :: joinC c (q :: l)).length ≤ _
    simp only [List.length_cons, List.length_append] at ih ⊢
    rw [Nat.add_mul (l.length + 1) 1]
    omega
theorem join_snoc (c : UInt8) (p : Bytes) : ∀ (l : List Bytes), l ≠ [] → joinC c (l ++ [p]) = joinC c l ++ c :: p
  | [], h => absurd rfl h
  | [q], _ => rfl
  | q :: r :: l, _ => by
    show q ++ c :: joinC c ((r :: l) ++ [p]) = (q ++ c :: joinC c (r :: l)) ++ c :: p
    rw [join_snoc c p (r :: l) (by simp)]
    simp
def cutAt (c : UInt8) (s : Bytes) : Bytes × Bytes × Bool := if 0 ≤ Go.Lib.indexByte s c then (List.take (Go.Lib.indexByte s c).toNat s, List.drop ((Go.Lib.indexByte s c).toNat + 1) s, true) else (s, [], false)
theorem cut_none {c : UInt8} {s : Bytes} (h : c ∉ s) : cutAt c s = (s, [], false) := by
  unfold cutAt
  refine if_neg fun h0 => h ?_
  have := (index_some h0).2.2
  rw [this]; simp
theorem cut_app {c : UInt8} {p r : Bytes} (h : c ∉ p) : cutAt c (p ++ c :: r) = (p, r, true) := by
  unfold cutAt
  have h0 : 0 ≤ Go.Lib.indexByte (p ++ c :: r) c := by
    apply Classical.byContradiction
    intro hn
    exact index_none (c := c) (s := p ++ c :: r) (by omega) (by simp)
  obtain ⟨_, h2, h3⟩ := index_some h0
  rw [if_pos h0]
  have key : ∀ (a b x y : Bytes), c ∉ a → c ∉ b → a ++ c :: x = b ++ c :: y → a = b ∧ x = y := by
    intro a
    induction a with
    | nil =>
      intro b x y _ hb e
      cases b with
      | nil => exact ⟨rfl, by injection e⟩
      | cons u b => injection e with e1 e2; exact absurd (by rw [e1]; simp) hb
    | cons u a ih =>
      intro b x y ha hb e
      cases b with
      | nil => injection e with e1 e2; exact absurd (by rw [e1]; simp) ha
      | cons v b =>
        injection e with e1 e2
        simp only [List.mem_cons, not_or] at ha hb
        obtain ⟨r1, r2⟩ := ih b x y ha.2 hb.2 e2
        exact ⟨by rw [e1, r1], r2⟩
  obtain ⟨k1, k2⟩ := key _ _ _ _ h h2 h3
  rw [← k1, ← k2]
theorem cut_some {c : UInt8} {s : Bytes} (h : (cutAt c s).2.2 = true) : s = (cutAt c s).1 ++ c :: (cutAt c s).2.1 ∧ c ∉ (cutAt c s).1 := by
  unfold cutAt at *
  split at h
  · rename_i h0
    rw [if_pos h0]
    obtain ⟨_, h2, h3⟩ := index_some h0
    exact ⟨h3, h2⟩
  · cases h
theorem gen_n (k : UInt8) (s : Bytes) : (min (((s.count k : Nat) : Int) + 1) ((List.length s : Int) + 1)).toNat = (splitC k s).length := by
  have h1 := split_len k s
  have h2 : s.count k ≤ s.length := List.count_le_length
  omega
theorem gen_more {k : UInt8} {c : Bytes} (h : 0 ≤ Go.Lib.indexByte c k) : splitC k c = List.take (Go.Lib.indexByte c k).toNat c :: splitC k (List.drop ((Go.Lib.indexByte c k).toNat + 1) c) := by
  obtain ⟨h1, h2, h3⟩ := index_some h
  conv => lhs; rw [h3]
  rw [split_app _ h2]
theorem set_rep (o : List Bytes) (n : Nat) (x : Bytes) : List.set (o ++ List.replicate (n + 1) []) o.length x = (o ++ [x]) ++ List.replicate n [] := by
  rw [List.set_append_right _ _ (Nat.le_refl _), Nat.sub_self, List.replicate_succ, List.set_cons_zero, List.append_assoc]; rfl
theorem gen_step {k : UInt8} {o : List Bytes} {c : Bytes} (h : 0 ≤ Go.Lib.indexByte c k) (x : Bytes) :
    List.set (o ++ List.replicate (splitC k c).length []) o.length x = (o ++ [x]) ++ List.replicate (splitC k (List.drop ((Go.Lib.indexByte c k).toNat + 1) c)).length [] := by
  rw [gen_more h, List.length_cons, set_rep]
theorem gen_inv {k : UInt8} {s c : Bytes} {o : List Bytes} (hP : splitC k s = o ++ splitC k c) (h : 0 ≤ Go.Lib.indexByte c k) : splitC k s = (o ++ [List.take (Go.Lib.indexByte c k).toNat c]) ++ splitC k (List.drop ((Go.Lib.indexByte c k).toNat + 1) c) := by
  rw [hP, gen_more h, List.append_assoc]; rfl
theorem gen_last {k : UInt8} {s c : Bytes} {o : List Bytes} (hP : splitC k s = o ++ splitC k c) (h : ¬ (o.length : Int) < ((splitC k s).length : Int) - 1) : k ∉ c := by
  have := congrArg List.length hP
  rw [List.length_append] at this
  have h1 := split_len k c
  exact split_one.1 (by omega)
theorem gen_end {k : UInt8} {s c : Bytes} {o : List Bytes} (hP : splitC k s = o ++ splitC k c) (hc : k ∉ c) : List.take (o.length + 1) (List.set (o ++ List.replicate (splitC k c).length []) o.length c) = splitC k s := by
  rw [hP, split_none hc]
  show List.take (o.length + 1) (List.set (o ++ List.replicate (0 + 1) []) o.length c) = _
  rw [set_rep]
  rw [List.replicate_zero, List.append_nil, List.take_of_length_le (by simp)]
theorem gen_le {k : UInt8} {s c : Bytes} {o : List Bytes} (hP : splitC k s = o ++ splitC k c) : o.length + (splitC k c).length = (splitC k s).length ∧ (splitC k s).length ≤ s.length + 1 ∧ 1 ≤ (splitC k c).length := by
  have h0 := congrArg List.length hP
  have h1 := split_len k s
  have h2 : s.count k ≤ s.length := List.count_le_length
  have h3 := split_len k c
  rw [List.length_append] at h0
  omega
def SInv (k : UInt8) (s : Bytes) (i f : Nat) (o : List Bytes) : Prop :=
  (i ≤ s.length ∧ f ≤ i ∧ k ∉ List.drop f (List.take i s) ∧ splitC k s = o ++ splitC k (List.drop f s)) ∨ (i = s.length + 1 ∧ f = i ∧ splitC k s = o)
theorem sinv_0 (k : UInt8) (s : Bytes) : SInv k s 0 0 [] := .inl ⟨Nat.zero_le _, Nat.le_refl _, by simp, by simp⟩
theorem sinv_len {k : UInt8} {s : Bytes} {i f : Nat} {o : List Bytes} (h : SInv k s i f o) : o.length ≤ s.length + 1 ∧ f ≤ i ∧ i ≤ s.length + 1 := by
  have h1 := split_len k s
  have h2 : s.count k ≤ s.length := List.count_le_length
  rcases h with ⟨a, b, c, d⟩ | ⟨a, b, d⟩
  · have := congrArg List.length d
    rw [List.length_append] at this; omega
  · have := congrArg List.length d; omega
theorem seg_split {s : Bytes} {i f : Nat} (hi : i < s.length) (hf : f ≤ i) : List.drop f s = List.drop f (List.take i s) ++ List.getD s i 0 :: List.drop (i + 1) s := by
  conv => lhs; rw [show s = List.take i s ++ List.drop i s from (List.take_append_drop i s).symm]
  rw [List.drop_append_of_le_length (by rw [List.length_take]; omega), AL.Lib.drop_cons 0 s i hi]
theorem sinv_hit {k : UInt8} {s : Bytes} {i f : Nat} {o : List Bytes} (h : SInv k s i f o) (hi : i ≤ s.length) (hc : i = s.length ∨ List.getD s i 0 = k) : SInv k s (i + 1) (i + 1) (o ++ [List.drop f (List.take i s)]) := by
  rcases h with ⟨a, b, c, d⟩ | ⟨a, b, d⟩
  · by_cases e : i = s.length
    · right
      refine ⟨by omega, rfl, ?_⟩
      rw [d]
      have : List.drop f (List.take i s) = List.drop f s := by rw [List.take_of_length_le (by omega)]
      rw [this] at c ⊢
      rw [split_none c]
    · left
      have hl : i < s.length := by omega
      have hk : List.getD s i 0 = k := hc.resolve_left e
      refine ⟨by omega, Nat.le_refl _, by rw [List.drop_of_length_le (by rw [List.length_take]; omega)]; simp, ?_⟩
      rw [d, seg_split hl b, hk, split_app _ c, List.append_assoc]; rfl
  · omega
theorem sinv_not {k : UInt8} {s : Bytes} {i f : Nat} {o : List Bytes} (h : SInv k s i f o) (hi : i ≤ s.length) (hc : ¬ (i = s.length ∨ List.getD s i 0 = k)) : SInv k s (i + 1) f o := by
  rcases h with ⟨a, b, c, d⟩ | ⟨a, b, d⟩
  · have hl : i < s.length := by omega
    refine .inl ⟨by omega, by omega, ?_, d⟩
    rw [AL.Lib.take_succ 0 s i hl, List.drop_append_of_le_length (by rw [List.length_take]; omega), List.mem_append, not_or]
    refine ⟨c, fun q => hc (.inr ?_)⟩
    exact (List.mem_singleton.1 q).symm
  · omega
theorem sinv_end {k : UInt8} {s : Bytes} {i f : Nat} {o : List Bytes} (h : SInv k s i f o) (hi : s.length < i) : splitC k s = o := by
  rcases h with ⟨a, b, c, d⟩ | ⟨a, b, d⟩
  · omega
  · exact d
end AL.Sep
namespace AL.Policy
open Go AL AL.Rune
open AL.Sep (splitC joinC cutAt)
open AL.Under (withinS longS longestS)
set_option linter.unusedVariables false
set_option linter.unusedSimpArgs false
abbrev RuleV := Bytes × Int
def rowP (x : RuleV) (i : Nat) : SC := match i with | 0 => st x.1 | _ => u8 x.2
abbrev slP (l : List RuleV) : SC := .sl 2 RuleV ([], 0) rowP l
def prefS (l : List RuleV) : List Bytes := l.map (·.1)
def thereS (ahead : List RuleV) (p : Bytes) : Bool := ahead.any fun y => decide (y.1 = p)
def oneC (ahead : List RuleV) (x : RuleV) : Int :=
  if ¬ x.1 = [] ∧ ¬ Route.checkS x.1 = 0 then Route.checkS x.1 else if 63 < x.2 then 2 else if thereS ahead x.1 = true then 20 else 0
def chkC : List RuleV → List RuleV → Int
  | _, [] => 0
  | ahead, x :: l => if oneC ahead x = 0 then chkC (ahead ++ [x]) l else oneC ahead x
def checkP (l : List RuleV) : Int := if 4 < l.length then 24 else chkC [] l
def ChkAt (l : List RuleV) (k : Nat) : Prop := chkC [] l = chkC (List.take k l) (List.drop k l)
theorem chk_0 (l : List RuleV) : ChkAt l 0 := by unfold ChkAt; rw [List.take_zero, List.drop_zero]
theorem chk_step {l : List RuleV} {k : Nat} (h : k < l.length) (hN : ChkAt l k) (h0 : oneC (List.take k l) (List.getD l k ([], 0)) = 0) : ChkAt l (k + 1) := by
  unfold ChkAt at *
  rw [hN, Lib.drop_cons ([], 0) l k h]
  show (if oneC _ _ = 0 then _ else _) = _
  rw [if_pos h0, ← Lib.take_succ ([], 0) l k h]
theorem chk_bad {l : List RuleV} {k : Nat} (h : k < l.length) (hl : ¬ 4 < l.length) (hN : ChkAt l k) (h0 : ¬ oneC (List.take k l) (List.getD l k ([], 0)) = 0) : checkP l = oneC (List.take k l) (List.getD l k ([], 0)) := by
  unfold ChkAt at hN
  unfold checkP
  rw [if_neg hl, hN, Lib.drop_cons ([], 0) l k h]
  show (if oneC _ _ = 0 then _ else _) = _
  rw [if_neg h0]
theorem chk_end {l : List RuleV} {k : Nat} (h : l.length ≤ k) (hl : ¬ 4 < l.length) (hN : ChkAt l k) : checkP l = 0 := by
  unfold ChkAt at hN
  unfold checkP
  rw [if_neg hl, hN, List.drop_of_length_le h]
  rfl
theorem chk_many {l : List RuleV} (h : 4 < l.length) : checkP l = 24 := if_pos h
theorem there_step {l : List RuleV} {p : Bytes} {j : Nat} (h : j < l.length) (hN : thereS (List.take j l) p = false) (h2 : ¬ (List.getD l j ([], 0)).1 = p) : thereS (List.take (j + 1) l) p = false := by
  unfold thereS at *
  rw [Lib.take_succ ([], 0) l j h, List.any_append, hN]
  simp only [List.any_cons, List.any_nil, Bool.or_false, Bool.false_or, decide_eq_false_iff_not]
  exact h2
theorem there_hit {l : List RuleV} {p : Bytes} {j k : Nat} (h : j < k) (hk : k < l.length) (h2 : (List.getD l j ([], 0)).1 = p) : thereS (List.take k l) p = true := by
  unfold thereS
  rw [List.any_eq_true]
  refine ⟨List.getD l j ([], 0), ?_, decide_eq_true h2⟩
  rw [Lib.getD_lt _ _ _ (by omega), List.mem_take_iff_getElem]
  exact ⟨j, by omega, rfl⟩
theorem there_idx (l : List RuleV) (p : Bytes) : decide (0 ≤ Lib.idxS (fun y : RuleV => decide (y.1 = p)) l) = thereS l p := by
  unfold thereS
  rw [Bool.eq_iff_iff, decide_eq_true_eq, List.any_eq_true]
  constructor
  · intro h
    obtain ⟨h1, _⟩ := Lib.idx_pos (([], 0) : RuleV) h
    exact ⟨_, Lib.getD_mem ([], 0) l _ (by have := Lib.idx_lt (fun y : RuleV => decide (y.1 = p)) l; omega), h1⟩
  · rintro ⟨x, hx, hp⟩
    by_cases h : 0 ≤ Lib.idxS (fun y : RuleV => decide (y.1 = p)) l
    · exact h
    · have h2 := Lib.idx_neg (p := fun y : RuleV => decide (y.1 = p)) (by omega) x hx
      exact absurd (h2.symm.trans hp) (by decide)
def OkP (x : RuleV) : Prop := (x.1 = [] ∨ Route.checkS x.1 = 0) ∧ x.2 ≤ 63
theorem one_ok {ahead : List RuleV} {x : RuleV} : oneC ahead x = 0 ↔ OkP x ∧ ∀ y ∈ ahead, ¬ y.1 = x.1 := by
  have ht : thereS ahead x.1 = true ↔ ∃ y ∈ ahead, y.1 = x.1 := by
    unfold thereS
    rw [List.any_eq_true]
    simp only [decide_eq_true_eq]
  unfold oneC OkP
  constructor
  · intro h
    split at h
    · rename_i q; exact absurd h q.2
    · rename_i q
      split at h
      · omega
      · split at h
        · omega
        · rename_i q2 q3
          refine ⟨⟨?_, by omega⟩, fun y hy e => q3 (ht.2 ⟨y, hy, e⟩)⟩
          apply Classical.byContradiction
          intro hn
          rw [not_or] at hn
          exact q hn
  · rintro ⟨⟨h1, h2⟩, h3⟩
    rw [if_neg (by rintro ⟨a, b⟩; rcases h1 with h1 | h1; exact a h1; exact b h1), if_neg (by omega), if_neg]
    intro q
    obtain ⟨y, hy, e⟩ := ht.1 q
    exact h3 y hy e
def MayP (l : List RuleV) : Prop := l.length ≤ 4 ∧ (∀ x ∈ l, OkP x) ∧ (prefS l).Nodup
theorem chk_may : ∀ (l ahead : List RuleV), chkC ahead l = 0 ↔ (∀ x ∈ l, OkP x) ∧ (prefS l).Nodup ∧ ∀ x ∈ l, ∀ y ∈ ahead, ¬ y.1 = x.1 := by
  intro l
  induction l with
  | nil => intro ahead; simp [chkC, prefS]
  | cons x l ih =>
    intro ahead
    have e : chkC ahead (x :: l) = if oneC ahead x = 0 then chkC (ahead ++ [x]) l else oneC ahead x := rfl
    have hp : (prefS (x :: l)).Nodup ↔ (∀ y ∈ l, ¬ x.1 = y.1) ∧ (prefS l).Nodup := by
      unfold prefS
      rw [List.map_cons, List.nodup_cons]
      simp only [List.mem_map, not_exists, not_and]
      exact ⟨fun h => ⟨fun y hy e => h.1 y hy e.symm, h.2⟩, fun h => ⟨fun y hy e => h.1 y hy e.symm, h.2⟩⟩
    rw [e, hp]
    by_cases h0 : oneC ahead x = 0
    · rw [if_pos h0, ih]
      have h1 := one_ok.1 h0
      constructor
      · rintro ⟨a, b, c⟩
        refine ⟨fun y hy => ?_, ⟨fun y hy => c y hy x (by simp), b⟩, fun y hy z hz => ?_⟩
        · rcases List.mem_cons.1 hy with rfl | hy
          · exact h1.1
          · exact a y hy
        · rcases List.mem_cons.1 hy with rfl | hy
          · exact h1.2 z hz
          · exact c y hy z (List.mem_append_left _ hz)
      · rintro ⟨a, ⟨b1, b2⟩, c⟩
        refine ⟨fun y hy => a y (List.mem_cons_of_mem _ hy), b2, fun y hy z hz => ?_⟩
        rcases List.mem_append.1 hz with hz | hz
        · exact c y (List.mem_cons_of_mem _ hy) z hz
        · rw [List.mem_singleton.1 hz]; exact b1 y hy
    · rw [if_neg h0]
      refine ⟨fun h => absurd h h0, fun h => absurd (one_ok.2 ⟨h.1 x (by simp), fun y hy => h.2.2 x (by simp) y hy⟩) h0⟩
theorem check_may {l : List RuleV} : checkP l = 0 ↔ MayP l := by
  unfold checkP MayP
  by_cases h : 4 < l.length
  · rw [if_pos h]; omega
  · rw [if_neg h, chk_may]
    constructor
    · rintro ⟨a, b, c⟩; exact ⟨by omega, a, b⟩
    · rintro ⟨a, b, c⟩; exact ⟨b, c, fun x _ y hy => by cases hy⟩
def capsP (l : List RuleV) (path : Bytes) : Int := if longestS path (prefS l) < 0 then 0 else (List.getD l (longestS path (prefS l)).toNat ([], 0)).2
theorem pref_getD (l : List RuleV) (k : Nat) : List.getD (prefS l) k [] = (List.getD l k ([], 0)).1 := by
  unfold prefS
  rw [List.getD_eq_getElem?_getD, List.getD_eq_getElem?_getD, List.getElem?_map]
  cases l[k]? <;> rfl
theorem pref_len (l : List RuleV) : (prefS l).length = l.length := List.length_map _
theorem pref_step (l : List RuleV) (k : Nat) (h : k < l.length) : List.set (prefS (List.take k l) ++ List.replicate (l.length - k) []) k (List.getD l k ([], 0)).1 = prefS (List.take (k + 1) l) ++ List.replicate (l.length - (k + 1)) [] := by
  have := Sep.fill_set ([] : Bytes) (prefS l) k (by rw [pref_len]; exact h)
  rw [pref_len, pref_getD] at this
  unfold prefS at *
  rw [List.map_take, List.map_take]
  exact this
theorem pref_end (l : List RuleV) (k : Nat) (h : l.length ≤ k) : prefS (List.take k l) ++ List.replicate (l.length - k) [] = prefS l := by
  rw [List.take_of_length_le h, show l.length - k = 0 by omega]; simp
def hasB (all some : Int) : Bool := decide (BitVec.ofInt 8 some &&& ~~~(BitVec.ofInt 8 all) = 0#8)
theorem has_iff {all some : Int} : hasB all some = true ↔ ∀ i, i < 8 → (BitVec.ofInt 8 some).getLsbD i = true → (BitVec.ofInt 8 all).getLsbD i = true := by
  unfold hasB
  rw [decide_eq_true_eq]
  constructor
  · intro h i hi h1
    have h2 := congrArg (fun v => BitVec.getLsbD v i) h
    simp only [BitVec.getLsbD_and, BitVec.getLsbD_not, BitVec.getLsbD_zero, h1, Bool.true_and, decide_eq_true hi] at h2
    simpa using h2
  · intro h
    refine BitVec.eq_of_getLsbD_eq fun i hi => ?_
    rw [BitVec.getLsbD_and, BitVec.getLsbD_not, BitVec.getLsbD_zero, decide_eq_true hi, Bool.true_and]
    cases h1 : (BitVec.ofInt 8 some).getLsbD i with
    | false => rfl
    | true => rw [h i hi h1]; rfl
theorem wrap_byte {n : Nat} (h : n < 256) : IntKind.wrap .u8 (n : Int) = (n : Int) := by
  simp [IntKind.wrap, IntKind.signed, IntKind.bits]
  omega
theorem has_val (all some : Int) : decide (IntKind.wrap .u8 ((BitVec.ofInt 8 some &&& ~~~(BitVec.ofInt 8 all)).toNat : Int) = 0) = hasB all some := by
  unfold hasB
  rw [decide_eq_decide, wrap_byte (BitVec.ofInt 8 some &&& ~~~(BitVec.ofInt 8 all)).isLt]
  constructor
  · intro h
    exact BitVec.eq_of_toNat_eq (by rw [show (0#8).toNat = 0 from rfl]; omega)
  · intro h; rw [h]; rfl
def bitN (n : Int) (i : Nat) : Bool := decide (n / 2 ^ i % 2 = 1)
theorem bit_val {n : Int} (h0 : 0 ≤ n) (h1 : n < 256) {i : Nat} (hi : i < 8) : (BitVec.ofInt 8 n).getLsbD i = bitN n i := by
  obtain ⟨m, rfl⟩ := Int.eq_ofNat_of_zero_le h0
  have hm : m < 256 := by omega
  have key : ∀ m : Nat, m < 256 → ∀ i : Nat, i < 8 → (BitVec.ofInt 8 (m : Int)).getLsbD i = bitN (m : Int) i := by decide +kernel
  exact key m hm i hi
theorem has_bits {all some : Int} (h0 : 0 ≤ all ∧ all < 256) (h1 : 0 ≤ some ∧ some < 256) : hasB all some = true ↔ ∀ i, i < 8 → bitN some i = true → bitN all i = true := by
  rw [has_iff]
  constructor
  · intro h i hi q
    have := h i hi (by rw [bit_val h1.1 h1.2 hi]; exact q)
    rwa [bit_val h0.1 h0.2 hi] at this
  · intro h i hi q
    rw [bit_val h1.1 h1.2 hi] at q
    rw [bit_val h0.1 h0.2 hi]
    exact h i hi q
def shrN (n : Int) (i : Nat) : Int := n / 2 ^ i
theorem shr_0 (n : Int) : shrN n 0 = n := by unfold shrN; simp
theorem shr_rng {n : Int} (h0 : 0 ≤ n) (h1 : n < 256) (i : Nat) : 0 ≤ shrN n i ∧ shrN n i < 256 := by
  unfold shrN
  refine ⟨Int.ediv_nonneg h0 (Int.pow_nonneg (by decide)), ?_⟩
  exact Int.lt_of_le_of_lt (Int.ediv_le_self _ h0) h1
theorem shr_step {n : Int} (h0 : 0 ≤ n) (h1 : n < 256) (i : Nat) : IntKind.wrap .u8 (Int.tdiv (shrN n i) 2) = shrN n (i + 1) := by
  have hr := shr_rng h0 h1 i
  have e : Int.tdiv (shrN n i) 2 = shrN n (i + 1) := by
    rw [Int.tdiv_eq_ediv_of_nonneg hr.1]
    unfold shrN
    rw [Int.pow_succ, Int.ediv_ediv_of_nonneg (Int.pow_nonneg (by decide))]
  rw [e]
  have hr2 := shr_rng h0 h1 (i + 1)
  simp [IntKind.wrap, IntKind.signed, IntKind.bits]
  omega
theorem shr_bit {n : Int} (h0 : 0 ≤ n) (h1 : n < 256) (i : Nat) : Int.tmod (shrN n i) 2 = 1 ↔ bitN n i = true := by
  have hr := shr_rng h0 h1 i
  unfold bitN
  rw [decide_eq_true_eq, Int.tmod_eq_emod_of_nonneg hr.1]
  exact Iff.rfl
theorem shr_not {n : Int} (h0 : 0 ≤ n) (h1 : n < 256) (i : Nat) : Int.tmod (shrN n i) 2 = 0 ↔ bitN n i = false := by
  have hr := shr_rng h0 h1 i
  unfold bitN
  rw [decide_eq_false_iff_not, Int.tmod_eq_emod_of_nonneg hr.1]
  unfold shrN
  omega
def allowsS (l : List RuleV) (path : Bytes) (caps : Int) : Bool := hasB (capsP l path) caps
def coverS (a b : List RuleV) (ps : List Bytes) : Bool := ps.all fun p => hasB (capsP b p) (capsP a p)
def coversS (a b : List RuleV) : Bool := decide (checkP a = 0) && (decide (checkP b = 0) && coverS a b (prefS a ++ prefS b))
theorem mem_pref {l : List RuleV} {x : RuleV} (h : x ∈ l) : x.1 ∈ prefS l := List.mem_map_of_mem h
theorem covers_no {a b : List RuleV} (h : ¬ checkP a = 0 ∨ ¬ checkP b = 0) : coversS a b = false := by
  unfold coversS
  rcases h with h | h
  · rw [decide_eq_false h]; rfl
  · rw [decide_eq_false h]; simp
theorem cover_step {a b : List RuleV} {ps : List Bytes} {k : Nat} (h : k < ps.length) (hN : coverS a b (List.take k ps) = true) (h2 : hasB (capsP b (List.getD ps k [])) (capsP a (List.getD ps k [])) = true) : coverS a b (List.take (k + 1) ps) = true := by
  unfold coverS at *
  rw [Lib.take_succ [] ps k h, List.all_append, hN]
  simp only [List.all_cons, List.all_nil, Bool.and_true, Bool.true_and]
  exact h2
theorem cover_app (a b : List RuleV) (p q : List Bytes) : coverS a b (p ++ q) = (coverS a b p && coverS a b q) := List.all_append ..
def lets : Bytes := [114, 119, 100, 120, 108, 115]
def laysN (n : Nat) : Bytes := (List.range 6).flatMap fun i => if n / 2 ^ i % 2 = 1 then [List.getD lets i 0] else []
def layS (n : Int) : Bytes := laysN n.toNat
def layK (n : Int) (k : Nat) : Bytes := (List.range k).flatMap fun i => if bitN n i = true then [List.getD lets i 0] else []
theorem lay_6 {n : Int} (h0 : 0 ≤ n) : layK n 6 = layS n := by
  obtain ⟨m, rfl⟩ := Int.eq_ofNat_of_zero_le h0
  unfold layK layS laysN
  rw [Int.toNat_natCast]
  have e : (fun i => if bitN (m : Int) i = true then [List.getD lets i 0] else []) = fun i => if m / 2 ^ i % 2 = 1 then [List.getD lets i 0] else [] := by
    funext i
    have : bitN (m : Int) i = true ↔ m / 2 ^ i % 2 = 1 := by
      unfold bitN
      rw [decide_eq_true_eq]
      have e2 : ((m : Int) / 2 ^ i % 2) = ((m / 2 ^ i % 2 : Nat) : Int) := by
        rw [Int.natCast_emod, Int.natCast_ediv, Int.natCast_pow]; rfl
      rw [e2]; omega
    by_cases q : m / 2 ^ i % 2 = 1
    · rw [if_pos q, if_pos (this.2 q)]
    · rw [if_neg q, if_neg (fun z => q (this.1 z))]
  rw [e]
theorem lay_t {n : Int} {k : Nat} (h : bitN n k = true) : layK n (k + 1) = layK n k ++ [List.getD lets k 0] := by
  unfold layK
  rw [List.range_succ, List.flatMap_append, List.flatMap_cons, List.flatMap_nil, if_pos h, List.append_nil]
theorem lay_f {n : Int} {k : Nat} (h : bitN n k = false) : layK n (k + 1) = layK n k := by
  unfold layK
  rw [List.range_succ, List.flatMap_append, List.flatMap_cons, List.flatMap_nil, if_neg (by rw [h]; decide), List.append_nil, List.append_nil]
theorem lay_len (n : Int) : ∀ k, (layK n k).length ≤ k := by
  intro k
  induction k with
  | zero => simp [layK]
  | succ k ih =>
    cases h : bitN n k with
    | true => rw [lay_t h, List.length_append]; simp only [List.length_cons, List.length_nil]; omega
    | false => rw [lay_f h]; omega
theorem lay_one (i : Nat) (h : i < 6) : List.drop i (List.take (i + 1) lets) = [List.getD lets i 0] := by
  have : ∀ i, i < 6 → List.drop i (List.take (i + 1) lets) = [List.getD lets i 0] := by decide
  exact this i h
theorem layS_len (n : Int) : (layS n).length ≤ 6 := by
  have := lay_len (n.toNat : Int) 6
  rw [lay_6 (by omega)] at this
  unfold layS at *
  rwa [Int.toNat_natCast] at this
def pieceS (x : RuleV) : Bytes := (x.1 ++ [58]) ++ layS x.2
def textOf (l : List RuleV) : Bytes := joinC 44 (l.map pieceS)
def textP (l : List RuleV) : Bytes × Int := if checkP l = 0 then (textOf l, 0) else ([], checkP l)
theorem text_ok {l : List RuleV} (h : checkP l = 0) : textP l = (textOf l, 0) := if_pos h
theorem text_no {l : List RuleV} (h : ¬ checkP l = 0) : textP l = ([], checkP l) := if_neg h
theorem piece_getD (l : List RuleV) (k : Nat) (h : k < l.length) : List.getD (l.map pieceS) k [] = pieceS (List.getD l k ([], 0)) := by
  rw [Lib.getD_lt _ _ _ (by rw [List.length_map]; exact h), Lib.getD_lt _ _ _ h, List.getElem_map]
theorem piece_step (l : List RuleV) (k : Nat) (h : k < l.length) : List.set ((List.take k l).map pieceS ++ List.replicate (l.length - k) []) k (pieceS (List.getD l k ([], 0))) = (List.take (k + 1) l).map pieceS ++ List.replicate (l.length - (k + 1)) [] := by
  have := Sep.fill_set ([] : Bytes) (l.map pieceS) k (by rw [List.length_map]; exact h)
  rw [List.length_map, piece_getD l k h] at this
  rw [List.map_take, List.map_take]
  exact this
theorem piece_end (l : List RuleV) (k : Nat) (h : l.length ≤ k) : (List.take k l).map pieceS ++ List.replicate (l.length - k) [] = l.map pieceS := by
  rw [List.take_of_length_le h, show l.length - k = 0 by omega]; simp
theorem text_len {l : List RuleV} {n : Nat} (h : ∀ x ∈ l, x.1.length ≤ n) : (textOf l).length ≤ l.length * (n + 8) := by
  have := Sep.join_max (c := 44) (n := n + 7) (l.map pieceS) (fun p hp => by
    obtain ⟨x, hx, rfl⟩ := List.mem_map.1 hp
    have h1 := h x hx
    have h2 := layS_len x.2
    unfold pieceS
    simp only [List.length_append, List.length_cons, List.length_nil]
    omega)
  rw [List.length_map] at this
  exact this
theorem text_first (l : List RuleV) (h : 0 < l.length) : pieceS (List.getD l 0 ([], 0)) = textOf (List.take 1 l) := by
  rw [Lib.take_succ ([], 0) l 0 h]; rfl
theorem text_step (l : List RuleV) (k : Nat) (h : k < l.length) (h0 : 0 < k) : (textOf (List.take k l) ++ [44]) ++ pieceS (List.getD l k ([], 0)) = textOf (List.take (k + 1) l) := by
  unfold textOf
  rw [Lib.take_succ ([], 0) l k h, List.map_append, List.map_cons, List.map_nil, Sep.join_snoc _ _ _ (by
    intro e
    have := congrArg List.length e
    rw [List.length_map, List.length_take, List.length_nil] at this
    omega), List.append_assoc]
  rfl
def atN (out : Nat) : Nat := if out = 0 then 0 else Nat.log2 out + 1
theorem caps_grow : ∀ out, out < 64 → ∀ j, j < 6 → atN out ≤ j → out + 2 ^ j < 64 ∧ laysN (out + 2 ^ j) = laysN out ++ [List.getD lets j 0] ∧ atN (out + 2 ^ j) = j + 1 ∧
    IntKind.wrap .u8 (((BitVec.ofInt 8 (out : Int) ||| BitVec.ofInt 8 (IntKind.wrap .u8 ((1 : Int) * 2 ^ (min (j : Int).toNat (IntKind.bits .u8))))).toNat : Int)) = ((out + 2 ^ j : Nat) : Int) := by decide +kernel
theorem caps_fail : ∀ n, n < 64 → ∀ out, out < 64 → List.isPrefixOf (laysN out) (laysN n) = true → laysN out = laysN n ∨ ∃ j, j < 6 ∧ (atN out ≤ j ∧ List.getD lets j 0 = List.getD (laysN n) (laysN out).length 0) := by decide +kernel
theorem lays_inj : ∀ n, n < 64 → ∀ m, m < 64 → laysN n = laysN m → n = m := by decide +kernel
theorem at_le : ∀ out, out < 64 → atN out ≤ 6 := by decide +kernel
theorem lets_low : ∀ j, j < 6 → (List.getD lets j 0).toNat < 128 ∧ List.getD lets j 0 ≠ 44 ∧ List.getD lets j 0 ≠ 58 ∧ List.getD lets j 0 ≠ 32 := by decide
def capsN (r : Bytes) : Option Nat := (List.range 64).find? fun n => decide (laysN n = r)
def capsR (r : Bytes) : Int × Bool := match capsN r with
  | some n => ((n : Int), true)
  | none => (0, false)
theorem capsN_some {r : Bytes} {n : Nat} (h : capsN r = some n) : n < 64 ∧ laysN n = r := by
  unfold capsN at h
  have h1 := List.find?_some h
  have h2 := List.mem_of_find?_eq_some h
  exact ⟨List.mem_range.1 h2, of_decide_eq_true h1⟩
theorem capsR_ok {n : Nat} {r : Bytes} (h : n < 64) (e : laysN n = r) : capsR r = ((n : Int), true) := by
  unfold capsR
  cases hc : capsN r with
  | none =>
    exfalso
    unfold capsN at hc
    rw [List.find?_eq_none] at hc
    exact hc n (List.mem_range.2 h) (decide_eq_true e)
  | some m =>
    obtain ⟨h1, h2⟩ := capsN_some hc
    rw [lays_inj n h m h1 (e.trans h2.symm)]
theorem capsR_no {r : Bytes} (h : ∀ n, n < 64 → laysN n ≠ r) : capsR r = (0, false) := by
  unfold capsR
  cases hc : capsN r with
  | none => rfl
  | some m => obtain ⟨h1, h2⟩ := capsN_some hc; exact absurd h2 (h m h1)
theorem capsR_yes {r : Bytes} (h : (capsR r).2 = true) : ∃ n, n < 64 ∧ laysN n = r ∧ capsR r = ((n : Int), true) := by
  unfold capsR at h
  cases hc : capsN r with
  | none => rw [hc] at h; cases h
  | some m => obtain ⟨h1, h2⟩ := capsN_some hc; exact ⟨m, h1, h2, capsR_ok h1 h2⟩
theorem dec_low {s : Bytes} {pos : Nat} (h : pos < s.length) (hb : (List.getD s pos 0).toNat < 128) : decS s pos = ((List.getD s pos 0).toNat, 1) := by
  rw [Rune.dec_N]
  unfold Go.Lib.decodeN
  rw [if_pos hb]
theorem dec_high {s : Bytes} {pos : Nat} (h : pos < s.length) (hb : ¬ (List.getD s pos 0).toNat < 128) : 128 ≤ (decS s pos).1 := by
  rw [Rune.dec_N]
  have q0 := Rune.byte_lt s pos
  unfold Go.Lib.decodeN
  rw [if_neg hb]
  repeat' split
  all_goals (simp only []; omega)
theorem caps_stop {s : Bytes} {pos out : Nat} (ho : out < 64) (hs : laysN out = List.take pos s) (h : pos < s.length) (hN : ∀ m, atN out ≤ m → m < 6 → ¬ (List.getD lets m 0).toNat = (decS s pos).1) : capsR s = (0, false) := by
  refine capsR_no fun n hn e => ?_
  have hp : List.isPrefixOf (laysN out) (laysN n) = true := by
    rw [e, hs, List.isPrefixOf_iff_prefix]; exact List.take_prefix _ _
  have hl : (laysN out).length = pos := by rw [hs, List.length_take]; omega
  rcases caps_fail n hn out ho hp with q | ⟨j, h1, h2, h3⟩
  · rw [e] at q
    rw [q] at hl; omega
  · rw [e, hl] at h3
    have hlow := (lets_low j h1).1
    refine hN j h2 h1 ?_
    rw [dec_low h (by rw [← h3]; exact hlow), h3]
theorem caps_next {s : Bytes} {pos out j : Nat} (ho : out < 64) (hs : laysN out = List.take pos s) (h : pos < s.length) (hj : j < 6) (ha : atN out ≤ j) (hc : (List.getD lets j 0).toNat = (decS s pos).1) : out + 2 ^ j < 64 ∧ laysN (out + 2 ^ j) = List.take (pos + (decS s pos).2) s ∧ atN (out + 2 ^ j) = j + 1 := by
  obtain ⟨g1, g2, g3, _⟩ := caps_grow out ho j hj ha
  refine ⟨g1, ?_, g3⟩
  have hlow := (lets_low j hj).1
  have hb : (List.getD s pos 0).toNat < 128 := by
    apply Classical.byContradiction
    intro hn
    have := dec_high h hn
    omega
  rw [dec_low h hb] at hc ⊢
  have e : List.getD lets j 0 = List.getD s pos 0 := UInt8.toNat_inj.1 hc
  rw [g2, hs, e, Lib.take_succ 0 s pos h]
theorem caps_done {s : Bytes} {pos out : Nat} (ho : out < 64) (hs : laysN out = List.take pos s) (h : s.length ≤ pos) : capsR s = ((out : Int), true) := by
  rw [List.take_of_length_le h] at hs
  exact capsR_ok ho hs
def scanP (s : Bytes) : RuleV × Bool := if (cutAt 58 s).2.2 = true ∧ (capsR (cutAt 58 s).2.1).2 = true then (((cutAt 58 s).1, (capsR (cutAt 58 s).2.1).1), true) else (([], 0), false)
def ruled (l : List Bytes) : List RuleV := l.map fun p => (scanP p).1
def fineS (l : List Bytes) : Bool := l.all fun p => (scanP p).2
def parseP (s : Bytes) : List RuleV × Int :=
  if s = [] then ([], 0) else if fineS (splitC 44 s) = true then (if checkP (ruled (splitC 44 s)) = 0 then (ruled (splitC 44 s), 0) else ([], checkP (ruled (splitC 44 s)))) else ([], 4)
theorem scan_ok {s : Bytes} (h1 : (cutAt 58 s).2.2 = true) (h2 : (capsR (cutAt 58 s).2.1).2 = true) : scanP s = (((cutAt 58 s).1, (capsR (cutAt 58 s).2.1).1), true) := if_pos ⟨h1, h2⟩
theorem scan_no {s : Bytes} (h : ¬ ((cutAt 58 s).2.2 = true ∧ (capsR (cutAt 58 s).2.1).2 = true)) : scanP s = (([], 0), false) := if_neg h
theorem ruled_step (l : List Bytes) (k : Nat) (h : k < l.length) : ruled (List.take k l) ++ [(scanP (List.getD l k [])).1] = ruled (List.take (k + 1) l) := by
  unfold ruled
  rw [Lib.take_succ [] l k h, List.map_append]; rfl
theorem ruled_len (l : List Bytes) : (ruled l).length = l.length := List.length_map _
theorem fine_step {l : List Bytes} {k : Nat} (h : k < l.length) (hN : fineS (List.take k l) = true) (h2 : (scanP (List.getD l k [])).2 = true) : fineS (List.take (k + 1) l) = true := by
  unfold fineS at *
  rw [Lib.take_succ [] l k h, List.all_append, hN]
  simp only [List.all_cons, List.all_nil, Bool.and_true, Bool.true_and]
  exact h2
theorem fine_bad {l : List Bytes} {k : Nat} (h : k < l.length) (h2 : (scanP (List.getD l k [])).2 = false) : fineS l = false := by
  unfold fineS
  rw [List.all_eq_false]
  exact ⟨_, Lib.getD_mem [] l k h, by rw [h2]; decide⟩
theorem parse_bad {s : Bytes} (h0 : ¬ s = []) (h : fineS (splitC 44 s) = false) : parseP s = ([], 4) := by
  unfold parseP
  rw [if_neg h0, if_neg (by rw [h]; decide)]
theorem parse_no {s : Bytes} (h0 : ¬ s = []) (h : fineS (splitC 44 s) = true) (h2 : ¬ checkP (ruled (splitC 44 s)) = 0) : parseP s = ([], checkP (ruled (splitC 44 s))) := by
  unfold parseP
  rw [if_neg h0, if_pos h, if_neg h2]
theorem parse_ok {s : Bytes} (h0 : ¬ s = []) (h : fineS (splitC 44 s) = true) (h2 : checkP (ruled (splitC 44 s)) = 0) : parseP s = (ruled (splitC 44 s), 0) := by
  unfold parseP
  rw [if_neg h0, if_pos h, if_pos h2]
theorem longest_rng (path : Bytes) (l : List RuleV) : -1 ≤ longestS path (prefS l) ∧ longestS path (prefS l) < (l.length : Int) := by
  have := Under.long_lt path (prefS l) (prefS l).length
  rw [pref_len] at this
  unfold longestS
  rw [pref_len]; exact this
theorem longP_t {l : List RuleV} {path : Bytes} {i : Nat} (h : withinS path (List.getD l i ([], 0)).1 = true ∧ (longS path (prefS l) i < 0 ∨ (List.length (List.getD l (longS path (prefS l) i).toNat ([], 0)).1 : Int) < (List.length (List.getD l i ([], 0)).1 : Int))) : longS path (prefS l) (i + 1) = i := by
  rw [Under.long_step, pref_getD, pref_getD, if_pos]
  rw [h.1, Bool.true_and, Bool.or_eq_true, decide_eq_true_eq, decide_eq_true_eq]
  exact h.2
theorem longP_f {l : List RuleV} {path : Bytes} {i : Nat} (h : withinS path (List.getD l i ([], 0)).1 = false ∨ (¬ longS path (prefS l) i < 0 ∧ ¬ (List.length (List.getD l (longS path (prefS l) i).toNat ([], 0)).1 : Int) < (List.length (List.getD l i ([], 0)).1 : Int))) : longS path (prefS l) (i + 1) = longS path (prefS l) i := by
  rw [Under.long_step, pref_getD, pref_getD, if_neg]
  rw [Bool.and_eq_true, Bool.or_eq_true, decide_eq_true_eq, decide_eq_true_eq]
  rintro ⟨q1, q2⟩
  rcases h with h | h
  · rw [h] at q1; cases q1
  · rcases q2 with q2 | q2
    · exact h.1 q2
    · exact h.2 q2
theorem capsP_ref (l : List RuleV) (path : Bytes) {i : Nat} (h1 : l.length ≤ i) (h2 : i ≤ l.length) : capsP l path = if longS path (prefS l) i < 0 then 0 else (List.getD l (longS path (prefS l) i).toNat ([], 0)).2 := by
  have e : i = (prefS l).length := by rw [pref_len]; omega
  subst e; rfl
theorem has_no {a s : Int} (h0 : 0 ≤ a ∧ a < 256) (h1 : 0 ≤ s ∧ s < 256) {i : Nat} (hi : i < 8) (h2 : Int.tmod (shrN s i) 2 = 1 ∧ Int.tmod (shrN a i) 2 = 0) : hasB a s = false := by
  rw [Bool.eq_false_iff]
  intro h
  have q := (has_bits h0 h1).1 h i hi ((shr_bit h1.1 h1.2 i).1 h2.1)
  rw [(shr_not h0.1 h0.2 i).1 h2.2] at q; cases q
def BitsTo (a s : Int) (i : Nat) : Prop := ∀ j, j < i → bitN s j = true → bitN a j = true
theorem bits_step {a s : Int} (h0 : 0 ≤ a ∧ a < 256) (h1 : 0 ≤ s ∧ s < 256) {i : Nat} (hN : BitsTo a s i) (h2 : ¬ Int.tmod (shrN s i) 2 = 1 ∨ ¬ Int.tmod (shrN a i) 2 = 0) : BitsTo a s (i + 1) := by
  intro j hj hb
  rcases Nat.lt_or_ge j i with q | q
  · exact hN j q hb
  · have e : j = i := by omega
    subst e
    rcases h2 with h2 | h2
    · exact absurd ((shr_bit h1.1 h1.2 j).2 hb) h2
    · cases hc : bitN a j with
      | true => rfl
      | false => exact absurd ((shr_not h0.1 h0.2 j).2 hc) h2
theorem has_yes {a s : Int} (h0 : 0 ≤ a ∧ a < 256) (h1 : 0 ≤ s ∧ s < 256) {i : Nat} (hi : 8 ≤ i) (hN : BitsTo a s i) : hasB a s = true :=
  (has_bits h0 h1).2 fun j hj hb => hN j (by omega) hb
theorem check_len {l : List RuleV} (h : checkP l = 0) : l.length ≤ 4 := (check_may.1 h).1
theorem ok_len {l : List RuleV} (h : checkP l = 0) : ∀ x ∈ l, x.1.length ≤ 64 := by
  intro x hx
  rcases ((check_may.1 h).2.1 x hx).1 with e | e
  · rw [e]; simp
  · apply Classical.byContradiction
    intro hn
    rw [Route.check_big (by omega)] at e
    omega
theorem ok_at {l : List RuleV} (h : checkP l = 0) {k : Nat} (hk : k < l.length) : (List.getD l k ([], 0)).1.length ≤ 64 := ok_len h _ (Lib.getD_mem ([], 0) l k hk)
theorem text_take {l : List RuleV} (h : checkP l = 0) (k : Nat) : (textOf (List.take k l)).length ≤ 1000 := by
  have h1 := text_len (l := List.take k l) (n := 64) (fun x hx => ok_len h x (List.mem_of_mem_take hx))
  have h2 := check_len h
  have h3 : (List.take k l).length ≤ 4 := by rw [List.length_take]; omega
  have : (List.take k l).length * (64 + 8) ≤ 4 * (64 + 8) := Nat.mul_le_mul_right _ h3
  omega
theorem text_small {l : List RuleV} (h : checkP l = 0) : (joinC 44 (l.map pieceS)).length ≤ 1000 := by
  have := text_take h l.length
  rw [List.take_length] at this
  exact this
theorem piece_len (x : RuleV) : (pieceS x).length ≤ x.1.length + 7 := by
  have := layS_len x.2
  unfold pieceS
  simp only [List.length_append, List.length_cons, List.length_nil]
  omega
theorem textP_len (l : List RuleV) : (textP l).1.length ≤ 1000 := by
  by_cases h : checkP l = 0
  · rw [text_ok h]; have := text_take h l.length; rw [List.take_length] at this; exact this
  · rw [text_no h]; simp
theorem split_le (c : UInt8) (s : Bytes) : (splitC c s).length ≤ s.length + 1 := by
  have h1 := Sep.split_len c s
  have h2 : s.count c ≤ s.length := List.count_le_length
  omega
theorem ruled_snoc (o : List Bytes) (x : Bytes) : ruled (o ++ [x]) = ruled o ++ [(scanP x).1] := by unfold ruled; rw [List.map_append]; rfl
theorem fine_snoc {o : List Bytes} {x : Bytes} (h : fineS o = true) (h2 : (scanP x).2 = true) : fineS (o ++ [x]) = true := by
  unfold fineS at *
  rw [List.all_append, h]
  simp only [List.all_cons, List.all_nil, Bool.and_true, Bool.true_and]
  exact h2
theorem byte44 {b : UInt8} : ((b.toNat : Nat) : Int) = 44 ↔ b = 44 := ⟨fun h => UInt8.toNat_inj.1 (by have : (44 : UInt8).toNat = 44 := rfl; omega), fun h => by subst h; rfl⟩
theorem byte58 {b : UInt8} : ((b.toNat : Nat) : Int) = 58 ↔ b = 58 := ⟨fun h => UInt8.toNat_inj.1 (by have : (58 : UInt8).toNat = 58 := rfl; omega), fun h => by subst h; rfl⟩
theorem sinv_in {k : UInt8} {s : Bytes} {i f : Nat} {o : List Bytes} {x : Bytes} (h : Sep.SInv k s i f (o ++ [x])) : x ∈ splitC k s := by
  rcases h with ⟨_, _, _, d⟩ | ⟨_, _, d⟩
  · rw [d]; simp
  · rw [d]; simp
theorem ref_hit {s : Bytes} {i f : Nat} {o : List Bytes} (h : Sep.SInv 44 s i f o) (hi : i ≤ s.length) (hc : (i : Int) = (List.length s : Int) ∨ ((List.getD s i 0).toNat : Int) = 44) : Sep.SInv 44 s (i + 1) (i + 1) (o ++ [List.drop f (List.take i s)]) :=
  Sep.sinv_hit h hi (hc.elim (fun q => .inl (by omega)) (fun q => .inr (byte44.1 q)))
theorem ref_not {s : Bytes} {i f : Nat} {o : List Bytes} (h : Sep.SInv 44 s i f o) (hi : i ≤ s.length) (hc : ¬ (i : Int) = (List.length s : Int) ∧ ¬ ((List.getD s i 0).toNat : Int) = 44) : Sep.SInv 44 s (i + 1) f o :=
  Sep.sinv_not h hi (fun q => q.elim (fun q => hc.1 (by omega)) (fun q => hc.2 (byte44.2 q)))
theorem fine_bad_in {s x : Bytes} (hx : x ∈ splitC 44 s) (h : (scanP x).2 = false) : fineS (splitC 44 s) = false := by
  unfold fineS
  rw [List.all_eq_false]
  exact ⟨x, hx, by rw [h]; decide⟩
def FirstAt (s : Bytes) (k : Nat) (a : Int) : Prop := (a = -1 ∧ (58 : UInt8) ∉ List.drop k s) ∨ ∃ m : Nat, a = m ∧ k ≤ m ∧ m < s.length ∧ List.getD s m 0 = 58 ∧ (58 : UInt8) ∉ List.drop k (List.take m s)
theorem first_start (s : Bytes) : FirstAt s s.length (-1) := .inl ⟨rfl, by rw [List.drop_length]; simp⟩
theorem first_rng {s : Bytes} {k : Nat} {a : Int} (h : FirstAt s k a) : -1 ≤ a ∧ a < (s.length : Int) := by
  rcases h with ⟨h, _⟩ | ⟨m, h1, h2, h3, _⟩ <;> omega
theorem first_hit {s : Bytes} {k : Nat} {a : Int} (h0 : 0 < k) (hk : k ≤ s.length) (hc : ((List.getD s ((k : Int) - 1).toNat 0).toNat : Int) = 58) : FirstAt s (k - 1) ((k : Int) - 1) := by
  rw [show ((k : Int) - 1).toNat = k - 1 by omega] at hc
  refine .inr ⟨k - 1, by omega, Nat.le_refl _, by omega, byte58.1 hc, ?_⟩
  rw [List.drop_of_length_le (by rw [List.length_take]; omega)]; simp
theorem first_not {s : Bytes} {k : Nat} {a : Int} (h : FirstAt s k a) (h0 : 0 < k) (hk : k ≤ s.length) (hc : ¬ ((List.getD s ((k : Int) - 1).toNat 0).toNat : Int) = 58) : FirstAt s (k - 1) a := by
  rw [show ((k : Int) - 1).toNat = k - 1 by omega] at hc
  have hb : ¬ List.getD s (k - 1) 0 = 58 := fun q => hc (byte58.2 q)
  rcases h with ⟨h1, h2⟩ | ⟨m, h1, h2, h3, h4, h5⟩
  · refine .inl ⟨h1, ?_⟩
    rw [Lib.drop_cons 0 s (k - 1) (by omega), show k - 1 + 1 = k by omega, List.mem_cons, not_or]
    exact ⟨fun q => hb q.symm, h2⟩
  · refine .inr ⟨m, h1, by omega, h3, h4, ?_⟩
    have hl : k - 1 < (List.take m s).length := by rw [List.length_take]; omega
    rw [Lib.drop_cons 0 (List.take m s) (k - 1) hl, show k - 1 + 1 = k by omega, List.mem_cons, not_or]
    refine ⟨fun q => hb ?_, h5⟩
    rw [q, List.getD_eq_getElem?_getD, List.getD_eq_getElem?_getD, List.getElem?_take, if_pos (by omega)]
theorem first_cut {s : Bytes} {a : Int} (h : FirstAt s 0 a) (h0 : ¬ a < 0) : cutAt 58 s = (List.take a.toNat s, List.drop (a.toNat + 1) s, true) := by
  rcases h with ⟨h1, _⟩ | ⟨m, h1, _, h3, h4, h5⟩
  · omega
  · subst h1
    rw [Int.toNat_natCast]
    rw [List.drop_zero] at h5
    conv => lhs; rw [Lib.take_cons 0 s m h3, h4]
    exact Sep.cut_app h5
theorem scan_neg {s : Bytes} {a : Int} (h : FirstAt s 0 a) (h0 : a < 0) : scanP s = (([], 0), false) := by
  rcases h with ⟨_, h2⟩ | ⟨m, h1, _⟩
  · rw [List.drop_zero] at h2
    exact scan_no fun q => by rw [Sep.cut_none h2] at q; exact absurd (show false = true from q.1) (by decide)
  · omega
theorem piece_iff {s : Bytes} {a : Int} (h : FirstAt s 0 a) (h0 : ¬ a < 0) (n : Nat) : pieceS (List.take a.toNat s, (n : Int)) = s ↔ laysN n = List.drop (a.toNat + 1) s := by
  have hc := first_cut h h0
  have hs := (Sep.cut_some (c := 58) (s := s) (by rw [hc])).1
  rw [hc] at hs
  unfold pieceS layS
  simp only [Int.toNat_natCast] at hs ⊢
  constructor
  · intro e
    have e2 := e.trans hs
    rw [List.append_assoc] at e2
    have e3 := List.append_cancel_left e2
    injection e3
  · intro e
    rw [e, List.append_assoc]
    exact hs.symm
theorem scan_hit {s : Bytes} {a : Int} (h : FirstAt s 0 a) (h0 : ¬ a < 0) {n : Nat} (hn : n < 64) (he : pieceS (List.take a.toNat s, (n : Int)) = s) : scanP s = ((List.take a.toNat s, (n : Int)), true) := by
  have hc := first_cut h h0
  have hr := capsR_ok hn ((piece_iff h h0 n).1 he)
  rw [scan_ok (by rw [hc]) (by rw [hc]; show (capsR (List.drop (a.toNat + 1) s)).2 = true; rw [hr]), hc]
  show ((List.take a.toNat s, (capsR (List.drop (a.toNat + 1) s)).1), true) = _
  rw [hr]
theorem scan_end {s : Bytes} {a : Int} (h : FirstAt s 0 a) (h0 : ¬ a < 0) (hN : ∀ n : Nat, n < 64 → ¬ pieceS (List.take a.toNat s, (n : Int)) = s) : scanP s = (([], 0), false) := by
  have hc := first_cut h h0
  refine scan_no fun q => ?_
  rw [hc] at q
  obtain ⟨n, h1, h2, _⟩ := capsR_yes q.2
  exact hN n h1 ((piece_iff h h0 n).2 h2)
theorem covers_yes {a b : List RuleV} (ha : checkP a = 0) (hb : checkP b = 0) (h1 : coverS a b (prefS a) = true) (h2 : coverS a b (prefS b) = true) : coversS a b = true := by
  unfold coversS
  rw [decide_eq_true ha, decide_eq_true hb, cover_app, h1, h2]; rfl
theorem covers_bad {a b l : List RuleV} {k : Nat} (hl : l = a ∨ l = b) (hk : k < l.length) (h : allowsS b (List.getD l k ([], 0)).1 (capsP a (List.getD l k ([], 0)).1) = false) : coversS a b = false := by
  unfold coversS
  have hm : (List.getD l k ([], 0)).1 ∈ prefS a ++ prefS b := by
    have := mem_pref (Lib.getD_mem ([], 0) l k hk)
    rcases hl with rfl | rfl
    · exact List.mem_append_left _ this
    · exact List.mem_append_right _ this
  have : coverS a b (prefS a ++ prefS b) = false := by
    unfold coverS
    rw [List.all_eq_false]
    exact ⟨_, hm, by rw [show hasB (capsP b _) (capsP a _) = false from h]; decide⟩
  rw [this]; simp
theorem pref_take (l : List RuleV) (k : Nat) : prefS (List.take k l) = List.take k (prefS l) := by unfold prefS; rw [List.map_take]
theorem cover_next {a b l : List RuleV} {k : Nat} (hk : k < l.length) (hN : coverS a b (prefS (List.take k l)) = true) (h : allowsS b (List.getD l k ([], 0)).1 (capsP a (List.getD l k ([], 0)).1) = true) : coverS a b (prefS (List.take (k + 1) l)) = true := by
  rw [pref_take] at *
  refine cover_step (by rw [pref_len]; exact hk) hN ?_
  rw [pref_getD]; exact h
def overP (l : List RuleV) : Int := if 8 < l.length ∨ (l.any fun x => decide (100 < x.1.length)) = true then 1 else 0
theorem over_1 {l : List RuleV} (h : 8 < l.length) : overP l = 1 := if_pos (.inl h)
theorem over_2 {l : List RuleV} {k : Nat} (hk : k < l.length) (h : 100 < (List.getD l k ([], 0)).1.length) : overP l = 1 :=
  if_pos (.inr (List.any_eq_true.2 ⟨_, Lib.getD_mem ([], 0) l k hk, decide_eq_true h⟩))
def ShortTo (l : List RuleV) (k : Nat) : Prop := ∀ j, j < k → (List.getD l j ([], 0)).1.length ≤ 100
theorem short_step {l : List RuleV} {k : Nat} (hN : ShortTo l k) (h : ¬ 100 < (List.getD l k ([], 0)).1.length) : ShortTo l (k + 1) := by
  intro j hj
  rcases Nat.lt_or_ge j k with q | q
  · exact hN j q
  · rw [show j = k by omega]; omega
theorem over_0 {l : List RuleV} {k : Nat} (h8 : ¬ 8 < l.length) (hk : l.length ≤ k) (hN : ShortTo l k) : overP l = 0 := by
  refine if_neg fun h => ?_
  rcases h with h | h
  · exact h8 h
  · obtain ⟨x, hx, h2⟩ := List.any_eq_true.1 h
    obtain ⟨j, hj, rfl⟩ := List.mem_iff_getElem.1 hx
    have := hN j (by omega)
    rw [Lib.getD_lt _ _ _ hj] at this
    have := of_decide_eq_true h2
    omega
theorem over_ok {l : List RuleV} (h : ¬ 0 < overP l) : l.length ≤ 8 ∧ ∀ x ∈ l, x.1.length ≤ 100 := by
  unfold overP at h
  split at h
  · exact absurd h (by decide)
  · rename_i q
    rw [not_or] at q
    refine ⟨by omega, fun x hx => ?_⟩
    apply Classical.byContradiction
    intro hn
    exact q.2 (List.any_eq_true.2 ⟨x, hx, decide_eq_true (by omega)⟩)
def awl : List RuleV := [([116, 101, 97, 109], 19), ([116, 101, 97, 109, 47, 97, 112, 112], 1)]
end AL.Policy
namespace AL.Token
open Go AL
open AL.Policy (RuleV rowP slP checkP coversS capsP)
set_option linter.unusedVariables false
set_option linter.unusedSimpArgs false
abbrev TokV := Bytes × Bytes × List RuleV
def tokd : TokV := ([], [], [])
def rowT (x : TokV) (i : Nat) : SC := match i with | 0 => st x.1 | 1 => st x.2.1 | _ => slP x.2.2
abbrev slT (l : List TokV) : SC := .sl 3 TokV tokd rowT l
def rowTs (l : List TokV) (_ : Nat) : SC := slT l
def rowZt (_ : Unit) (i : Nat) : SC := match i with | 0 => st [] | 1 => st [] | _ => .nilsl
abbrev rootB : Bytes := [114, 111, 111, 116]
def firstT : TokV := (rootB, [], [([], 63)])
def checkT (t : TokV) : Int :=
  if Rows.namedS t.1 = false then 2 else if ¬ checkP t.2.2 = 0 then checkP t.2.2 else
  if (t.2.1 = [] ∧ t.1 = rootB) ∨ (Rows.namedS t.2.1 = true ∧ ¬ t.2.1 = t.1) then 0 else 2
theorem check_rules {t : TokV} (h : checkT t = 0) : checkP t.2.2 = 0 := by
  unfold checkT at h
  split at h
  · cases h
  · split at h
    · exact absurd h (by assumption)
    · exact Decidable.not_not.1 (by assumption)
theorem rules_le {l : List RuleV} (h : checkP l = 0) : l.length ≤ 4 := by
  unfold checkP at h
  split at h
  · cases h
  · omega
theorem check_le {t : TokV} (h : checkT t = 0) : t.2.2.length ≤ 4 := rules_le (check_rules h)
theorem same_tok {a b : TokV} : (((decide (a.1 = b.1)) && (decide (a.2.1 = b.2.1))) && (decide (a.2.2 = b.2.2))) = decide (a = b) := by
  rw [Bool.eq_iff_iff]
  simp only [Bool.and_eq_true, decide_eq_true_eq, Prod.ext_iff, and_assoc]
theorem named_key (s : Bytes) : decide (Rows.checkK ((3, s, 0) : Rows.KeyV) = 0) = Rows.namedS s := by
  rw [Bool.eq_iff_iff, decide_eq_true_eq, Rows.check_may]
  unfold Rows.MayK
  constructor
  · rintro (h | h | h | h)
    · exact absurd (show (3 : Int) = 1 from h.1) (by decide)
    · exact absurd (show (3 : Int) = 2 from h.1) (by decide)
    · exact h.2.1
    · exact h.1.elim (fun q => absurd (show (3 : Int) = 4 from q) (by decide)) (fun q => absurd (show (3 : Int) = 5 from q) (by decide))
  · intro h
    exact .inr (.inr (.inl ⟨rfl, h, rfl⟩))
theorem cov_le {l : List RuleV} (h : checkP l = 0) : ∀ x ∈ l, x.1.length ≤ 100000 := by
  have hm := (Policy.check_may.1 h).2
  intro x hx
  have : x.1 = [] ∨ Route.checkS x.1 = 0 := (hm.1 x hx).1
  rcases this with e | e
  · rw [e]; exact Nat.zero_le _
  · unfold Route.checkS at e
    split at e
    · exact absurd e (by decide)
    · omega
theorem pref_app (a b : List RuleV) : Policy.prefS (a ++ b) = Policy.prefS a ++ Policy.prefS b := List.map_append
theorem cov_next {a b l : List RuleV} {k : Nat} (hk : k < l.length) (hN : Policy.coverS a b (Policy.prefS (List.take k l)) = true) (h : Policy.hasB (capsP b (List.getD l k ([], 0)).1) (capsP a (List.getD l k ([], 0)).1) = true) : Policy.coverS a b (Policy.prefS (List.take (k + 1) l)) = true :=
  Policy.cover_next hk hN h
theorem cov_yes {a b : List RuleV} {i : Nat} (ha : checkP a = 0) (hb : checkP b = 0) (hi : (a ++ b).length ≤ i) (h : Policy.coverS a b (Policy.prefS (List.take i (a ++ b))) = true) : coversS a b = true := by
  rw [List.take_of_length_le hi, pref_app] at h
  unfold coversS
  rw [decide_eq_true ha, decide_eq_true hb, h]; rfl
theorem cov_bad {a b : List RuleV} {i : Nat} (hi : i < (a ++ b).length) (h : Policy.hasB (capsP b (List.getD (a ++ b) i ([], 0)).1) (capsP a (List.getD (a ++ b) i ([], 0)).1) = false) : coversS a b = false := by
  cases hq : coversS a b with
  | false => rfl
  | true =>
    unfold coversS at hq
    simp only [Bool.and_eq_true] at hq
    have h2 := hq.2.2
    unfold Policy.coverS at h2
    have := List.all_eq_true.1 h2 (List.getD (a ++ b) i ([], 0)).1 (by
      rw [← pref_app]
      exact List.mem_map.2 ⟨_, Lib.getD_mem ([], 0) _ i hi, rfl⟩)
    rw [h] at this
    cases this
def cmpS (a b : Bytes) : Int := if a < b then -1 else if b < a then 1 else 0
theorem cmp_lt {a b : Bytes} : cmpS a b < 0 ↔ a < b := by
  unfold cmpS
  split
  · rename_i h; exact ⟨fun _ => h, fun _ => by decide⟩
  · rename_i h
    split
    · exact ⟨fun q => absurd q (by decide), fun q => absurd q h⟩
    · exact ⟨fun q => absurd q (by decide), fun q => absurd q h⟩
theorem cmp_eq {a b : Bytes} : cmpS a b = 0 ↔ a = b := by
  unfold cmpS
  split
  · rename_i h; exact ⟨fun q => absurd q (by decide), fun q => absurd (q ▸ h) (List.lt_irrefl _)⟩
  · rename_i h
    split
    · rename_i h2; exact ⟨fun q => absurd q (by decide), fun q => absurd (q ▸ h2) (List.lt_irrefl _)⟩
    · rename_i h2
      refine ⟨fun _ => ?_, fun _ => rfl⟩
      by_cases e : a = b
      · exact e
      · exact absurd (Under.lt_of_not h e) h2
theorem cmp_1 {a b : Bytes} (h : Op.bytesLess a b = true) : cmpS a b = -1 := if_pos (by rw [Under.bl] at h; exact of_decide_eq_true h)
theorem cmp_2 {a b : Bytes} (h : Op.bytesLess a b = false) (h2 : ¬ a = b) : cmpS a b = 1 := by
  rw [Under.bl] at h
  unfold cmpS
  rw [if_neg (of_decide_eq_false h), if_pos (Under.lt_of_not (of_decide_eq_false h) h2)]
theorem cmp_3 {a b : Bytes} (h : Op.bytesLess a b = false) (h2 : Op.bytesLess a b = true ∨ a = b) : cmpS a b = 0 := by
  rcases h2 with h2 | h2
  · rw [h] at h2; cases h2
  · exact cmp_eq.2 h2
def SortT (l : List TokV) : Prop := l.Pairwise fun x y => x.1 < y.1
def locT (l : List TokV) (n : Bytes) : Nat := Lib.leadS (fun x => decide (cmpS x.1 n < 0)) l
theorem loc_le (l : List TokV) (n : Bytes) : locT l n ≤ l.length := Lib.lead_le _ l
theorem sort_ahead {l : List TokV} (h : SortT l) (n : Bytes) : Lib.Ahead (fun x : TokV => decide (cmpS x.1 n < 0)) l := by
  unfold SortT at h
  unfold Lib.Ahead
  refine h.imp fun {x y} hxy hy => ?_
  have := cmp_lt.1 (of_decide_eq_true hy)
  exact decide_eq_true (cmp_lt.2 (List.lt_trans hxy this))
def findT (l : List TokV) (n : Bytes) : Int := Lib.idxS (fun x => decide (x.1 = n)) l
theorem find_lt (l : List TokV) (n : Bytes) : -1 ≤ findT l n ∧ findT l n < l.length := ⟨Lib.idx_ge _ l, Lib.idx_lt _ l⟩
theorem find_no {l : List TokV} {n : Bytes} : findT l n < 0 ↔ ∀ x ∈ l, ¬ x.1 = n := by
  constructor
  · intro h x hx
    exact of_decide_eq_false (Lib.idx_neg h x hx)
  · intro h
    have := Lib.idx_none (p := fun x : TokV => decide (x.1 = n)) (l := l) fun x hx => decide_eq_false (h x hx)
    unfold findT
    omega
theorem find_at {l : List TokV} {n : Bytes} (h : 0 ≤ findT l n) : (List.getD l (findT l n).toNat tokd).1 = n ∧ List.getD l (findT l n).toNat tokd ∈ l := by
  have h1 := (Lib.idx_pos tokd h).1
  have h2 := find_lt l n
  exact ⟨of_decide_eq_true h1, Lib.getD_mem tokd l _ (by omega)⟩
theorem lead_all {p : TokV → Bool} {l : List TokV} {x : TokV} (h : x ∈ List.take (Lib.leadS p l) l) : p x = true := by
  unfold Lib.leadS at h
  rw [(List.prefix_iff_eq_take.1 (List.takeWhile_prefix p)).symm] at h
  exact Lib.takeWhile_all h
theorem lead_not {p : TokV → Bool} : ∀ {l : List TokV}, Lib.leadS p l < l.length → p (List.getD l (Lib.leadS p l) tokd) = false
  | [], h => by simp at h
  | x :: l, h => by
    unfold Lib.leadS at h ⊢
    rw [List.takeWhile_cons] at h ⊢
    split at h
    · rw [if_pos (by assumption), List.length_cons, List.getD_cons_succ]
      rw [List.length_cons, List.length_cons] at h
      exact lead_not (by unfold Lib.leadS; omega)
    · rw [if_neg (by assumption)]
      show p x = false
      simpa using ‹¬ p x = true›
theorem loc_take {l : List TokV} {n : Bytes} {x : TokV} (h : x ∈ List.take (locT l n) l) : x.1 < n := cmp_lt.1 (of_decide_eq_true (lead_all h))
theorem loc_drop {l : List TokV} (hs : SortT l) {n : Bytes} {x : TokV} (h : x ∈ List.drop (locT l n) l) : ¬ x.1 < n := by
  have hk := loc_le l n
  by_cases q : locT l n < l.length
  · have h1 := lead_not (p := fun x : TokV => decide (cmpS x.1 n < 0)) q
    have h2 := Lib.ahead_hi tokd (sort_ahead hs n) (locT l n) q h1 x h
    exact fun z => of_decide_eq_false h2 (cmp_lt.2 z)
  · rw [List.drop_of_length_le (by omega)] at h; cases h
theorem loc_find {l : List TokV} {n : Bytes} (hs : SortT l) (h : 0 ≤ findT l n) : findT l n = (locT l n : Int) := by
  have h1 := find_at h
  have h2 := find_lt l n
  have h3 := (Lib.idx_pos tokd h).2
  obtain ⟨k, hk⟩ := Int.eq_ofNat_of_zero_le h
  rw [hk] at h1 h2
  rw [Int.toNat_natCast] at h1
  have hk2 : k < l.length := by omega
  have : locT l n = k := Lib.lead_eq l k (by omega) (fun x hx => by
      unfold SortT at hs
      rw [Lib.take_cons tokd l k hk2] at hs
      have := (List.pairwise_append.1 hs).2.2 x hx _ (List.mem_cons_self ..)
      rw [h1.1] at this
      exact decide_eq_true (cmp_lt.2 this))
    (fun x hx => by
      rw [Lib.drop_cons tokd l k hk2] at hx
      rcases List.mem_cons.1 hx with rfl | hx
      · exact decide_eq_false (fun q => List.lt_irrefl _ (h1.1 ▸ cmp_lt.1 q))
      · unfold SortT at hs
        rw [Lib.take_cons tokd l k hk2] at hs
        have := (List.pairwise_cons.1 (List.pairwise_append.1 hs).2.1).1 x hx
        rw [h1.1] at this
        exact decide_eq_false (fun q => List.lt_irrefl _ (List.lt_trans this (cmp_lt.1 q))))
  rw [hk, this]
theorem find_loc {l : List TokV} {n : Bytes} (hs : SortT l) : (decide ((locT l n : Int) < (List.length l : Int)) && decide (cmpS (List.getD l (locT l n) tokd).1 n = 0)) = decide (0 ≤ findT l n) := by
  rw [Bool.eq_iff_iff]
  simp only [Bool.and_eq_true, decide_eq_true_eq]
  constructor
  · rintro ⟨h1, h2⟩
    rcases Int.lt_or_le (findT l n) 0 with q | q
    · exact absurd (cmp_eq.1 h2) (find_no.1 q _ (Lib.getD_mem tokd l _ (by omega)))
    · exact q
  · intro h
    have h1 := loc_find hs h
    have h2 := find_at h
    have h3 := find_lt l n
    rw [h1, Int.toNat_natCast] at h2
    exact ⟨by omega, cmp_eq.2 h2.1⟩
def intoT (l : List TokV) (t : TokV) : List TokV := List.take (locT l t.1) l ++ t :: List.drop (locT l t.1) l
theorem into_len (l : List TokV) (t : TokV) : (intoT l t).length = l.length + 1 := by
  have := loc_le l t.1
  unfold intoT
  simp only [List.length_append, List.length_cons, List.length_take, List.length_drop]
  omega
theorem into_mem {l : List TokV} {t x : TokV} : x ∈ intoT l t ↔ x = t ∨ x ∈ l := by
  unfold intoT
  rw [List.mem_append, List.mem_cons]
  conv => rhs; rw [← List.take_append_drop (locT l t.1) l, List.mem_append]
  constructor
  · rintro (h | h | h)
    · exact .inr (.inl h)
    · exact .inl h
    · exact .inr (.inr h)
  · rintro (h | h | h)
    · exact .inr (.inl h)
    · exact .inl h
    · exact .inr (.inr h)
theorem into_flat (l : List TokV) (t : TokV) : ([List.take (locT l t.1) l, [t], List.drop (locT l t.1) l] : List (List TokV)).flatten = intoT l t := by
  simp [intoT]
theorem into_sort {l : List TokV} {t : TokV} (hs : SortT l) (h : findT l t.1 < 0) : SortT (intoT l t) := by
  have hn := find_no.1 h
  unfold SortT intoT at *
  have ht := hs
  rw [← List.take_append_drop (locT l t.1) l] at ht
  obtain ⟨h1, h2, h3⟩ := List.pairwise_append.1 ht
  refine List.pairwise_append.2 ⟨h1, List.pairwise_cons.2 ⟨fun y hy => ?_, h2⟩, fun x hx y hy => ?_⟩
  · exact Under.lt_of_not (loc_drop hs hy) (hn y (List.mem_of_mem_drop hy))
  · rcases List.mem_cons.1 hy with rfl | hy
    · exact loc_take hx
    · exact h3 x hx y hy
def LessTo (l : List TokV) (n : Bytes) (k : Nat) : Prop := ∀ x ∈ List.take k l, decide (cmpS x.1 n < 0) = true
theorem less_0 (l : List TokV) (n : Bytes) : LessTo l n 0 := fun x hx => by simp at hx
theorem less_step {l : List TokV} {n : Bytes} {k : Nat} (hk : k < l.length) (hN : LessTo l n k) (h : Op.bytesLess (List.getD l k tokd).1 n = true) : LessTo l n (k + 1) := by
  intro x hx
  rw [Lib.take_succ tokd l k hk] at hx
  rcases List.mem_append.1 hx with q | q
  · exact hN x q
  · rw [List.mem_singleton.1 q, Under.bl] at *
    rw [List.mem_singleton.1 q]
    exact decide_eq_true (cmp_lt.2 (of_decide_eq_true h))
theorem less_loc {l : List TokV} {n : Bytes} {k : Nat} (hk : k ≤ l.length) (hN : LessTo l n k) (h : ¬ (k : Int) < (List.length l : Int) ∨ Op.bytesLess (List.getD l k tokd).1 n = false) : locT l n = k := by
  unfold locT
  by_cases q : k < l.length
  · rcases h with h | h
    · omega
    · rw [Under.bl] at h
      unfold Lib.leadS
      have e : l = List.take k l ++ List.getD l k tokd :: List.drop (k + 1) l := Lib.take_cons tokd l k q
      have e1 : l.takeWhile (fun x => decide (cmpS x.1 n < 0)) = List.take k l := by
        conv => lhs; rw [e]
        rw [List.takeWhile_append_of_pos hN, List.takeWhile_cons, if_neg (by simp only [decide_eq_true_eq]; exact fun z => of_decide_eq_false h (cmp_lt.1 z)), List.append_nil]
      rw [e1, List.length_take]
      omega
  · exact Lib.lead_eq l k hk hN (fun x hx => by rw [List.drop_of_length_le (by omega)] at hx; cases hx)
def makeT (l : List TokV) (t : TokV) : List TokV × Int :=
  if ¬ checkT t = 0 then (l, checkT t) else if t.2.1 = [] then (l, 2) else if 0 ≤ findT l t.1 then (l, 20) else if findT l t.2.1 < 0 then (l, 6) else
  if coversS t.2.2 (List.getD l (findT l t.2.1).toNat tokd).2.2 = false then (l, 13) else (intoT l t, 0)
theorem make_1 {l : List TokV} {t : TokV} (h : ¬ checkT t = 0) : makeT l t = (l, checkT t) := if_pos h
theorem make_2 {l : List TokV} {t : TokV} (h : checkT t = 0) (h2 : t.2.1 = []) : makeT l t = (l, 2) := by unfold makeT; rw [if_neg (by simp [h]), if_pos h2]
theorem make_3 {l : List TokV} {t : TokV} (h : checkT t = 0) (h2 : ¬ t.2.1 = []) (h3 : 0 ≤ findT l t.1) : makeT l t = (l, 20) := by unfold makeT; rw [if_neg (by simp [h]), if_neg h2, if_pos h3]
theorem make_4 {l : List TokV} {t : TokV} (h : checkT t = 0) (h2 : ¬ t.2.1 = []) (h3 : ¬ 0 ≤ findT l t.1) (h4 : ¬ 0 ≤ findT l t.2.1) : makeT l t = (l, 6) := by unfold makeT; rw [if_neg (by simp [h]), if_neg h2, if_neg h3, if_pos (by omega)]
theorem make_5 {l : List TokV} {t : TokV} (h : checkT t = 0) (h2 : ¬ t.2.1 = []) (h3 : ¬ 0 ≤ findT l t.1) (h4 : 0 ≤ findT l t.2.1) (h5 : coversS t.2.2 (List.getD l (findT l t.2.1).toNat tokd).2.2 = false) : makeT l t = (l, 13) := by
  unfold makeT; rw [if_neg (by simp [h]), if_neg h2, if_neg h3, if_neg (by omega), if_pos h5]
theorem make_0 {l : List TokV} {t : TokV} (h : checkT t = 0) (h2 : ¬ t.2.1 = []) (h3 : ¬ 0 ≤ findT l t.1) (h4 : 0 ≤ findT l t.2.1) (h5 : coversS t.2.2 (List.getD l (findT l t.2.1).toNat tokd).2.2 = true) : makeT l t = (intoT l t, 0) := by
  unfold makeT; rw [if_neg (by simp [h]), if_neg h2, if_neg h3, if_neg (by omega), if_neg (by rw [h5]; decide)]
theorem at_loc {l : List TokV} {n : Bytes} (hs : SortT l) (h : 0 ≤ findT l n) : List.getD l (findT l n).toNat tokd = List.getD l (locT l n) tokd ∧ locT l n < l.length := by
  have h1 := loc_find hs h
  have h2 := find_lt l n
  rw [h1, Int.toNat_natCast]
  exact ⟨rfl, by omega⟩
def findR (l : List TokV) (n : Bytes) : TokV × Bool := if findT l n < 0 then (tokd, false) else (List.getD l (findT l n).toNat tokd, true)
def capsR (l : List TokV) (n p : Bytes) : Int := if findT l n < 0 then 0 else capsP (List.getD l (findT l n).toNat tokd).2.2 p
def namesT (l : List TokV) : List Bytes := l.map (·.1)
theorem names_step (l : List TokV) (k : Nat) (h : k < l.length) : namesT (List.take k l) ++ [(List.getD l k tokd).1] = namesT (List.take (k + 1) l) := by
  unfold namesT
  rw [Lib.take_succ tokd l k h, List.map_append]; rfl
theorem names_len (l : List TokV) : (namesT l).length = l.length := List.length_map _
def upS (l : List TokV) (n : Bytes) : Nat → TokV → Bool
  | 0, _ => false
  | k + 1, t => if t.1 = n then true else if findT l t.2.1 < 0 then false else upS l n k (List.getD l (findT l t.2.1).toNat tokd)
def goneS (l : List TokV) (t : TokV) (n : Bytes) : Bool := upS l n (l.length + 1) t
theorem up_1 {l : List TokV} {n : Bytes} {k : Nat} {t : TokV} (h : t.1 = n) (hk : 0 < k) : upS l n k t = true := by
  obtain ⟨j, rfl⟩ : ∃ j, k = j + 1 := ⟨k - 1, by omega⟩
  exact if_pos h
def leftT (l : List TokV) (n : Bytes) : List TokV := l.filter fun t => !(goneS l t n)
def goneT (l : List TokV) (n : Bytes) : List Bytes := namesT (l.filter fun t => goneS l t n)
def revokeT (l : List TokV) (n : Bytes) : List TokV × List Bytes × Int := if findT l n < 0 then (l, [], 6) else (leftT l n, goneT l n, 0)
def leftTo (l : List TokV) (n : Bytes) (k : Nat) : List TokV := (List.take k l).filter fun t => !(goneS l t n)
def goneTo (l : List TokV) (n : Bytes) (k : Nat) : List Bytes := namesT ((List.take k l).filter fun t => goneS l t n)
theorem left_y {l : List TokV} {n : Bytes} {k : Nat} (hk : k < l.length) (h : goneS l (List.getD l k tokd) n = true) : leftTo l n (k + 1) = leftTo l n k ∧ goneTo l n k ++ [(List.getD l k tokd).1] = goneTo l n (k + 1) := by
  unfold leftTo goneTo namesT
  rw [Lib.take_succ tokd l k hk, List.filter_append, List.filter_append, List.map_append]
  generalize List.getD l k tokd = x at h ⊢
  simp [h]
theorem left_n {l : List TokV} {n : Bytes} {k : Nat} (hk : k < l.length) (h : goneS l (List.getD l k tokd) n = false) : leftTo l n k ++ [List.getD l k tokd] = leftTo l n (k + 1) ∧ goneTo l n (k + 1) = goneTo l n k := by
  unfold leftTo goneTo namesT
  rw [Lib.take_succ tokd l k hk, List.filter_append, List.filter_append, List.map_append]
  generalize List.getD l k tokd = x at h ⊢
  simp [h]
theorem left_end {l : List TokV} {n : Bytes} {k : Nat} (hk : l.length ≤ k) : leftTo l n k = leftT l n ∧ goneTo l n k = goneT l n := by
  unfold leftTo goneTo leftT goneT
  rw [List.take_of_length_le hk]; exact ⟨rfl, rfl⟩
theorem left_len (l : List TokV) (n : Bytes) (k : Nat) : (leftTo l n k).length ≤ k ∧ (goneTo l n k).length ≤ k := by
  unfold leftTo goneTo namesT
  rw [List.length_map]
  exact ⟨Nat.le_trans (List.length_filter_le _ _) (by rw [List.length_take]; omega), Nat.le_trans (List.length_filter_le _ _) (by rw [List.length_take]; omega)⟩
def childT (n : Bytes) (t : TokV) : Bool := decide (t.2.1 = n) && !decide (t.1 = n)
def takeS (l : List TokV) : Nat → Bytes → List Bytes
  | 0, _ => []
  | f + 1, n => n :: (l.filter (childT n)).flatMap fun t => takeS l f t.1
def FitS (l : List TokV) : Nat → Bytes → Prop
  | 0, _ => False
  | f + 1, n => ∀ t ∈ l, childT n t = true → FitS l f t.1
def takeTo (l : List TokV) (f : Nat) (n : Bytes) (k : Nat) : List Bytes := ((List.take k l).filter (childT n)).flatMap fun t => takeS l f t.1
theorem take_0 (l : List TokV) (f : Nat) (n : Bytes) : takeTo l f n 0 = [] := by simp [takeTo]
theorem take_y {l : List TokV} {f : Nat} {n : Bytes} {k : Nat} (hk : k < l.length) (h : childT n (List.getD l k tokd) = true) : takeTo l f n (k + 1) = takeTo l f n k ++ takeS l f (List.getD l k tokd).1 := by
  unfold takeTo
  rw [Lib.take_succ tokd l k hk, List.filter_append, List.flatMap_append]
  generalize List.getD l k tokd = x at h ⊢
  simp [h]
theorem take_n {l : List TokV} {f : Nat} {n : Bytes} {k : Nat} (hk : k < l.length) (h : childT n (List.getD l k tokd) = false) : takeTo l f n (k + 1) = takeTo l f n k := by
  unfold takeTo
  rw [Lib.take_succ tokd l k hk, List.filter_append, List.flatMap_append]
  generalize List.getD l k tokd = x at h ⊢
  simp [h]
theorem take_end (l : List TokV) (f : Nat) (n : Bytes) {k : Nat} (hk : l.length ≤ k) : takeS l (f + 1) n = n :: takeTo l f n k := by
  unfold takeTo
  rw [List.take_of_length_le hk]; rfl
theorem take_mono (l : List TokV) (f : Nat) (n : Bytes) (k : Nat) : (takeTo l f n k).length + 1 ≤ (takeS l (f + 1) n).length := by
  have e : l.filter (childT n) = (List.take k l).filter (childT n) ++ (List.drop k l).filter (childT n) := by rw [← List.filter_append, List.take_append_drop]
  show _ ≤ (n :: (l.filter (childT n)).flatMap fun t => takeS l f t.1).length
  rw [e, List.flatMap_append, List.length_cons, List.length_append]
  unfold takeTo
  omega
theorem child_y {n : Bytes} {t : TokV} (h : t.2.1 = n ∧ ¬ t.1 = n) : childT n t = true := by unfold childT; simp [h.1, h.2]
theorem child_n {n : Bytes} {t : TokV} (h : ¬ t.2.1 = n ∨ t.1 = n) : childT n t = false := by
  unfold childT
  rcases h with h | h <;> simp [h]
end AL.Token
namespace AL.Route
open Go Go.Proofs AL AL.Rune
set_option linter.unusedVariables false
set_option linter.unusedSimpArgs false
theorem f171_body : Tryz.f171.body = some (.seq (.region 0 (rg Tryz.f171 0) false) (.seq (.block 0 (.seq (.seq (.region 1 (rg Tryz.f171 1) false) (.cond (.tmp 3) (.skip) (.seq (.region 2 (rg Tryz.f171 2) false) (.cond (.tmp 3) (.skip) (.region 3 (rg Tryz.f171 3) false))))) (.cond (.tmp 3) (.seq (.region 4 (rg Tryz.f171 4) false) (.ret)) (.seq (.seq (.region 5 (rg Tryz.f171 5) false) (.cond (.tmp 22) (.skip) (.seq (.region 6 (rg Tryz.f171 6) false) (.cond (.tmp 22) (.skip) (.region 7 (rg Tryz.f171 7) false))))) (.cond (.tmp 22) (.seq (.region 8 (rg Tryz.f171 8) false) (.ret)) (.skip)))))) (.seq (.region 9 (rg Tryz.f171 9) false) (.ret)))) := by kernel_rfl
set_option maxRecDepth 100000 in
set_option maxHeartbeats 8000000 in
theorem Rune_c (c : Int) : Pure Tryz.prog 171 [tc (i3 c)] (vc (bo (runeOk c))) := by
 refine Pure.of_body Tryz.func171 f171_body (by kernel_rfl) Tryz.ntmps171 (by kernel_rfl) (by kernel_rfl) ?_
 refine gS [] [] 35 [(0, vc (i3 c))] [] trivial ?_
 refine gQ ?_
 refine AMx.block ?_
 refine gQ ?_
 refine gS [] [((decide (97 ≤ c)) = true) → allP [(decide (97 ≤ c)) = true], (decide (97 ≤ c)) = true → allP [(decide (97 ≤ c)) = true]] 35 [(0, vc (i3 c)), (3, vc (bo ((decide (97 ≤ c)) && (decide (c ≤ 122)))))] [] ⟨(fun hp => hp), (fun hp2 => (by first | exact hp2 | exact ⟨hp, hp2⟩))⟩ ?_
 refine gB (((decide (97 ≤ c)) && (decide (c ≤ 122)))) (fun hc1 => ?_) fun hc1 => ?_
 ·
  try simp only [xT, xF, xA, xB] at hc1
  refine AMx.skip ?_
  refine gB (((decide (97 ≤ c)) && (decide (c ≤ 122)))) (fun hc2 => ?_) fun hc2 => ?_
  ·
   try simp only [xT, xF, xA, xB] at hc2
   refine gS [] [] 35 [(2, vc (bo true))] [] trivial ?_
   exact gT (vc (bo true)) (by rw [show runeOk c = true from by first | rfl | (unfold runeOk; rw [Bool.eq_iff_iff]; simp only [Bool.or_eq_true, Bool.and_eq_true, decide_eq_true_eq, iff_true, Bool.false_eq_true, iff_false] <;> omega)])
  ·
   try simp only [xT, xF, xA, xB] at hc2
   refine gQ ?_
   refine gS [] [] 35 [(0, vc (i3 c)), (22, vc (bo (decide (c = 45))))] [] trivial ?_
   refine gC (c = 45) (fun hc3 => ?_) fun hc3 => ?_
   ·
    refine AMx.skip ?_
    refine gC (c = 45) (fun hc4 => ?_) fun hc4 => ?_
    ·
     refine gS [] [] 35 [(2, vc (bo true))] [] trivial ?_
     exact gT (vc (bo true)) (by rw [show runeOk c = true from by first | rfl | (unfold runeOk; rw [Bool.eq_iff_iff]; simp only [Bool.or_eq_true, Bool.and_eq_true, decide_eq_true_eq, iff_true, Bool.false_eq_true, iff_false] <;> omega)])
    ·
     refine AMx.skip ?_
     refine AMx.blk ?_
     refine gS [] [((decide (192 ≤ c)) = true) → allP [(decide (192 ≤ c)) = true], (decide (192 ≤ c)) = true → allP [(decide (192 ≤ c)) = true]] 35 [(2, vc (bo ((decide (192 ≤ c)) && (decide (c ≤ 55295)))))] [] ⟨(fun hp => hp), (fun hp2 => (by first | exact hp2 | exact ⟨hp, hp2⟩))⟩ ?_
     exact gT (vc (bo ((decide (192 ≤ c)) && (decide (c ≤ 55295))))) (by rw [show runeOk c = ((decide (192 ≤ c)) && (decide (c ≤ 55295))) from by first | rfl | (unfold runeOk; rw [Bool.eq_iff_iff]; simp only [Bool.or_eq_true, Bool.and_eq_true, decide_eq_true_eq, iff_true, Bool.false_eq_true, iff_false] <;> omega)])
   ·
    refine gS [] [] 35 [(0, vc (i3 c)), (22, vc (bo (decide (c = 46))))] [] trivial ?_
    refine gC (c = 46) (fun hc5 => ?_) fun hc5 => ?_
    ·
     refine AMx.skip ?_
     refine gC (c = 46) (fun hc6 => ?_) fun hc6 => ?_
     ·
      refine gS [] [] 35 [(2, vc (bo true))] [] trivial ?_
      exact gT (vc (bo true)) (by rw [show runeOk c = true from by first | rfl | (unfold runeOk; rw [Bool.eq_iff_iff]; simp only [Bool.or_eq_true, Bool.and_eq_true, decide_eq_true_eq, iff_true, Bool.false_eq_true, iff_false] <;> omega)])
     ·
      refine AMx.skip ?_
      refine AMx.blk ?_
      refine gS [] [((decide (192 ≤ c)) = true) → allP [(decide (192 ≤ c)) = true], (decide (192 ≤ c)) = true → allP [(decide (192 ≤ c)) = true]] 35 [(2, vc (bo ((decide (192 ≤ c)) && (decide (c ≤ 55295)))))] [] ⟨(fun hp => hp), (fun hp2 => (by first | exact hp2 | exact ⟨hp, hp2⟩))⟩ ?_
      exact gT (vc (bo ((decide (192 ≤ c)) && (decide (c ≤ 55295))))) (by rw [show runeOk c = ((decide (192 ≤ c)) && (decide (c ≤ 55295))) from by first | rfl | (unfold runeOk; rw [Bool.eq_iff_iff]; simp only [Bool.or_eq_true, Bool.and_eq_true, decide_eq_true_eq, iff_true, Bool.false_eq_true, iff_false] <;> omega)])
    ·
     refine gR [] [] 35 [(0, vc (i3 c)), (22, vc (bo (decide (c = 95))))] [] trivial ?_
     refine gC (c = 95) (fun hc7 => ?_) fun hc7 => ?_
     ·
      refine gS [] [] 35 [(2, vc (bo true))] [] trivial ?_
      exact gT (vc (bo true)) (by rw [show runeOk c = true from by first | rfl | (unfold runeOk; rw [Bool.eq_iff_iff]; simp only [Bool.or_eq_true, Bool.and_eq_true, decide_eq_true_eq, iff_true, Bool.false_eq_true, iff_false] <;> omega)])
     ·
      refine AMx.skip ?_
      refine AMx.blk ?_
      refine gS [] [((decide (192 ≤ c)) = true) → allP [(decide (192 ≤ c)) = true], (decide (192 ≤ c)) = true → allP [(decide (192 ≤ c)) = true]] 35 [(2, vc (bo ((decide (192 ≤ c)) && (decide (c ≤ 55295)))))] [] ⟨(fun hp => hp), (fun hp2 => (by first | exact hp2 | exact ⟨hp, hp2⟩))⟩ ?_
      exact gT (vc (bo ((decide (192 ≤ c)) && (decide (c ≤ 55295))))) (by rw [show runeOk c = ((decide (192 ≤ c)) && (decide (c ≤ 55295))) from by first | rfl | (unfold runeOk; rw [Bool.eq_iff_iff]; simp only [Bool.or_eq_true, Bool.and_eq_true, decide_eq_true_eq, iff_true, Bool.false_eq_true, iff_false] <;> omega)])
 ·
  try simp only [xT, xF, xA, xB] at hc1
  refine gS [] [((decide (65 ≤ c)) = true) → allP [(decide (65 ≤ c)) = true], (decide (65 ≤ c)) = true → allP [(decide (65 ≤ c)) = true]] 35 [(0, vc (i3 c)), (3, vc (bo ((decide (65 ≤ c)) && (decide (c ≤ 90)))))] [] ⟨(fun hp => hp), (fun hp2 => (by first | exact hp2 | exact ⟨hp, hp2⟩))⟩ ?_
  refine gB (((decide (65 ≤ c)) && (decide (c ≤ 90)))) (fun hc8 => ?_) fun hc8 => ?_
  ·
   try simp only [xT, xF, xA, xB] at hc8
   refine AMx.skip ?_
   refine gB (((decide (65 ≤ c)) && (decide (c ≤ 90)))) (fun hc9 => ?_) fun hc9 => ?_
   ·
    try simp only [xT, xF, xA, xB] at hc9
    refine gS [] [] 35 [(2, vc (bo true))] [] trivial ?_
    exact gT (vc (bo true)) (by rw [show runeOk c = true from by first | rfl | (unfold runeOk; rw [Bool.eq_iff_iff]; simp only [Bool.or_eq_true, Bool.and_eq_true, decide_eq_true_eq, iff_true, Bool.false_eq_true, iff_false] <;> omega)])
   ·
    try simp only [xT, xF, xA, xB] at hc9
    refine gQ ?_
    refine gS [] [] 35 [(0, vc (i3 c)), (22, vc (bo (decide (c = 45))))] [] trivial ?_
    refine gC (c = 45) (fun hc10 => ?_) fun hc10 => ?_
    ·
     refine AMx.skip ?_
     refine gC (c = 45) (fun hc11 => ?_) fun hc11 => ?_
     ·
      refine gS [] [] 35 [(2, vc (bo true))] [] trivial ?_
      exact gT (vc (bo true)) (by rw [show runeOk c = true from by first | rfl | (unfold runeOk; rw [Bool.eq_iff_iff]; simp only [Bool.or_eq_true, Bool.and_eq_true, decide_eq_true_eq, iff_true, Bool.false_eq_true, iff_false] <;> omega)])
     ·
      refine AMx.skip ?_
      refine AMx.blk ?_
      refine gS [] [((decide (192 ≤ c)) = true) → allP [(decide (192 ≤ c)) = true], (decide (192 ≤ c)) = true → allP [(decide (192 ≤ c)) = true]] 35 [(2, vc (bo ((decide (192 ≤ c)) && (decide (c ≤ 55295)))))] [] ⟨(fun hp => hp), (fun hp2 => (by first | exact hp2 | exact ⟨hp, hp2⟩))⟩ ?_
      exact gT (vc (bo ((decide (192 ≤ c)) && (decide (c ≤ 55295))))) (by rw [show runeOk c = ((decide (192 ≤ c)) && (decide (c ≤ 55295))) from by first | rfl | (unfold runeOk; rw [Bool.eq_iff_iff]; simp only [Bool.or_eq_true, Bool.and_eq_true, decide_eq_true_eq, iff_true, Bool.false_eq_true, iff_false] <;> omega)])
    ·
     refine gS [] [] 35 [(0, vc (i3 c)), (22, vc (bo (decide (c = 46))))] [] trivial ?_
     refine gC (c = 46) (fun hc12 => ?_) fun hc12 => ?_
     ·
      refine AMx.skip ?_
      refine gC (c = 46) (fun hc13 => ?_) fun hc13 => ?_
      ·
       refine gS [] [] 35 [(2, vc (bo true))] [] trivial ?_
       exact gT (vc (bo true)) (by rw [show runeOk c = true from by first | rfl | (unfold runeOk; rw [Bool.eq_iff_iff]; simp only [Bool.or_eq_true, Bool.and_eq_true, decide_eq_true_eq, iff_true, Bool.false_eq_true, iff_false] <;> omega)])
      ·
       refine AMx.skip ?_
       refine AMx.blk ?_
       refine gS [] [((decide (192 ≤ c)) = true) → allP [(decide (192 ≤ c)) = true], (decide (192 ≤ c)) = true → allP [(decide (192 ≤ c)) = true]] 35 [(2, vc (bo ((decide (192 ≤ c)) && (decide (c ≤ 55295)))))] [] ⟨(fun hp => hp), (fun hp2 => (by first | exact hp2 | exact ⟨hp, hp2⟩))⟩ ?_
       exact gT (vc (bo ((decide (192 ≤ c)) && (decide (c ≤ 55295))))) (by rw [show runeOk c = ((decide (192 ≤ c)) && (decide (c ≤ 55295))) from by first | rfl | (unfold runeOk; rw [Bool.eq_iff_iff]; simp only [Bool.or_eq_true, Bool.and_eq_true, decide_eq_true_eq, iff_true, Bool.false_eq_true, iff_false] <;> omega)])
     ·
      refine gR [] [] 35 [(0, vc (i3 c)), (22, vc (bo (decide (c = 95))))] [] trivial ?_
      refine gC (c = 95) (fun hc14 => ?_) fun hc14 => ?_
      ·
       refine gS [] [] 35 [(2, vc (bo true))] [] trivial ?_
       exact gT (vc (bo true)) (by rw [show runeOk c = true from by first | rfl | (unfold runeOk; rw [Bool.eq_iff_iff]; simp only [Bool.or_eq_true, Bool.and_eq_true, decide_eq_true_eq, iff_true, Bool.false_eq_true, iff_false] <;> omega)])
      ·
       refine AMx.skip ?_
       refine AMx.blk ?_
       refine gS [] [((decide (192 ≤ c)) = true) → allP [(decide (192 ≤ c)) = true], (decide (192 ≤ c)) = true → allP [(decide (192 ≤ c)) = true]] 35 [(2, vc (bo ((decide (192 ≤ c)) && (decide (c ≤ 55295)))))] [] ⟨(fun hp => hp), (fun hp2 => (by first | exact hp2 | exact ⟨hp, hp2⟩))⟩ ?_
       exact gT (vc (bo ((decide (192 ≤ c)) && (decide (c ≤ 55295))))) (by rw [show runeOk c = ((decide (192 ≤ c)) && (decide (c ≤ 55295))) from by first | rfl | (unfold runeOk; rw [Bool.eq_iff_iff]; simp only [Bool.or_eq_true, Bool.and_eq_true, decide_eq_true_eq, iff_true, Bool.false_eq_true, iff_false] <;> omega)])
  ·
   try simp only [xT, xF, xA, xB] at hc8
   refine gR [] [((decide (48 ≤ c)) = true) → allP [(decide (48 ≤ c)) = true], (decide (48 ≤ c)) = true → allP [(decide (48 ≤ c)) = true]] 35 [(0, vc (i3 c)), (3, vc (bo ((decide (48 ≤ c)) && (decide (c ≤ 57)))))] [] ⟨(fun hp => hp), (fun hp2 => (by first | exact hp2 | exact ⟨hp, hp2⟩))⟩ ?_
   refine gB (((decide (48 ≤ c)) && (decide (c ≤ 57)))) (fun hc15 => ?_) fun hc15 => ?_
   ·
    try simp only [xT, xF, xA, xB] at hc15
    refine gS [] [] 35 [(2, vc (bo true))] [] trivial ?_
    exact gT (vc (bo true)) (by rw [show runeOk c = true from by first | rfl | (unfold runeOk; rw [Bool.eq_iff_iff]; simp only [Bool.or_eq_true, Bool.and_eq_true, decide_eq_true_eq, iff_true, Bool.false_eq_true, iff_false] <;> omega)])
   ·
    try simp only [xT, xF, xA, xB] at hc15
    refine gQ ?_
    refine gS [] [] 35 [(0, vc (i3 c)), (22, vc (bo (decide (c = 45))))] [] trivial ?_
    refine gC (c = 45) (fun hc16 => ?_) fun hc16 => ?_
    ·
     refine AMx.skip ?_
     refine gC (c = 45) (fun hc17 => ?_) fun hc17 => ?_
     ·
      refine gS [] [] 35 [(2, vc (bo true))] [] trivial ?_
      exact gT (vc (bo true)) (by rw [show runeOk c = true from by first | rfl | (unfold runeOk; rw [Bool.eq_iff_iff]; simp only [Bool.or_eq_true, Bool.and_eq_true, decide_eq_true_eq, iff_true, Bool.false_eq_true, iff_false] <;> omega)])
     ·
      refine AMx.skip ?_
      refine AMx.blk ?_
      refine gS [] [((decide (192 ≤ c)) = true) → allP [(decide (192 ≤ c)) = true], (decide (192 ≤ c)) = true → allP [(decide (192 ≤ c)) = true]] 35 [(2, vc (bo ((decide (192 ≤ c)) && (decide (c ≤ 55295)))))] [] ⟨(fun hp => hp), (fun hp2 => (by first | exact hp2 | exact ⟨hp, hp2⟩))⟩ ?_
      exact gT (vc (bo ((decide (192 ≤ c)) && (decide (c ≤ 55295))))) (by rw [show runeOk c = ((decide (192 ≤ c)) && (decide (c ≤ 55295))) from by first | rfl | (unfold runeOk; rw [Bool.eq_iff_iff]; simp only [Bool.or_eq_true, Bool.and_eq_true, decide_eq_true_eq, iff_true, Bool.false_eq_true, iff_false] <;> omega)])
    ·
     refine gS [] [] 35 [(0, vc (i3 c)), (22, vc (bo (decide (c = 46))))] [] trivial ?_
     refine gC (c = 46) (fun hc18 => ?_) fun hc18 => ?_
     ·
      refine AMx.skip ?_
      refine gC (c = 46) (fun hc19 => ?_) fun hc19 => ?_
      ·
       refine gS [] [] 35 [(2, vc (bo true))] [] trivial ?_
       exact gT (vc (bo true)) (by rw [show runeOk c = true from by first | rfl | (unfold runeOk; rw [Bool.eq_iff_iff]; simp only [Bool.or_eq_true, Bool.and_eq_true, decide_eq_true_eq, iff_true, Bool.false_eq_true, iff_false] <;> omega)])
      ·
       refine AMx.skip ?_
       refine AMx.blk ?_
       refine gS [] [((decide (192 ≤ c)) = true) → allP [(decide (192 ≤ c)) = true], (decide (192 ≤ c)) = true → allP [(decide (192 ≤ c)) = true]] 35 [(2, vc (bo ((decide (192 ≤ c)) && (decide (c ≤ 55295)))))] [] ⟨(fun hp => hp), (fun hp2 => (by first | exact hp2 | exact ⟨hp, hp2⟩))⟩ ?_
       exact gT (vc (bo ((decide (192 ≤ c)) && (decide (c ≤ 55295))))) (by rw [show runeOk c = ((decide (192 ≤ c)) && (decide (c ≤ 55295))) from by first | rfl | (unfold runeOk; rw [Bool.eq_iff_iff]; simp only [Bool.or_eq_true, Bool.and_eq_true, decide_eq_true_eq, iff_true, Bool.false_eq_true, iff_false] <;> omega)])
     ·
      refine gR [] [] 35 [(0, vc (i3 c)), (22, vc (bo (decide (c = 95))))] [] trivial ?_
      refine gC (c = 95) (fun hc20 => ?_) fun hc20 => ?_
      ·
       refine gS [] [] 35 [(2, vc (bo true))] [] trivial ?_
       exact gT (vc (bo true)) (by rw [show runeOk c = true from by first | rfl | (unfold runeOk; rw [Bool.eq_iff_iff]; simp only [Bool.or_eq_true, Bool.and_eq_true, decide_eq_true_eq, iff_true, Bool.false_eq_true, iff_false] <;> omega)])
      ·
       refine AMx.skip ?_
       refine AMx.blk ?_
       refine gS [] [((decide (192 ≤ c)) = true) → allP [(decide (192 ≤ c)) = true], (decide (192 ≤ c)) = true → allP [(decide (192 ≤ c)) = true]] 35 [(2, vc (bo ((decide (192 ≤ c)) && (decide (c ≤ 55295)))))] [] ⟨(fun hp => hp), (fun hp2 => (by first | exact hp2 | exact ⟨hp, hp2⟩))⟩ ?_
       exact gT (vc (bo ((decide (192 ≤ c)) && (decide (c ≤ 55295))))) (by rw [show runeOk c = ((decide (192 ≤ c)) && (decide (c ≤ 55295))) from by first | rfl | (unfold runeOk; rw [Bool.eq_iff_iff]; simp only [Bool.or_eq_true, Bool.and_eq_true, decide_eq_true_eq, iff_true, Bool.false_eq_true, iff_false] <;> omega)])
theorem f134_body : Tryz.f134.body = some (.seq (.region 0 (rg Tryz.f134 0) false) (.seq (.region 1 (rg Tryz.f134 1) false) (.ret))) := by kernel_rfl
set_option maxRecDepth 100000 in
set_option maxHeartbeats 8000000 in
theorem RRune_c (c : Int) : Pure Tryz.prog 134 [tc (i6 c)] (vc (bo (runeOk c))) := by
 refine Pure.of_body Tryz.func134 f134_body (by kernel_rfl) Tryz.ntmps134 (by kernel_rfl) (by kernel_rfl) ?_
 refine gS [] [] 45 [(0, vc (i6 c))] [] trivial ?_
 refine gS [] [((decide (97 ≤ c)) = true) → allP [(decide (97 ≤ c)) = true], (decide (97 ≤ c)) = true → allP [(decide (97 ≤ c)) = true], (((decide (97 ≤ c)) && (decide (c ≤ 122))) = false) → allP [((decide (97 ≤ c)) && (decide (c ≤ 122))) = false], (((decide (97 ≤ c)) && (decide (c ≤ 122))) = false) → allP [((decide (97 ≤ c)) && (decide (c ≤ 122))) = false], ((((decide (97 ≤ c)) && (decide (c ≤ 122))) = false) ∧ (decide (65 ≤ c)) = true) → allP [(((decide (97 ≤ c)) && (decide (c ≤ 122))) = false) ∧ (decide (65 ≤ c)) = true], (((decide (97 ≤ c)) && (decide (c ≤ 122))) = false) → allP [((decide (97 ≤ c)) && (decide (c ≤ 122))) = false, (decide (65 ≤ c)) = true → allP [(((decide (97 ≤ c)) && (decide (c ≤ 122))) = false) ∧ (decide (65 ≤ c)) = true]], ((decide (97 ≤ c)) && (decide (c ≤ 122))) = false → allP [((decide (97 ≤ c)) && (decide (c ≤ 122))) = false], ((((decide (97 ≤ c)) && (decide (c ≤ 122))) || ((decide (65 ≤ c)) && (decide (c ≤ 90)))) = false) → allP [(((decide (97 ≤ c)) && (decide (c ≤ 122))) || ((decide (65 ≤ c)) && (decide (c ≤ 90)))) = false], ((((decide (97 ≤ c)) && (decide (c ≤ 122))) || ((decide (65 ≤ c)) && (decide (c ≤ 90)))) = false) → allP [(((decide (97 ≤ c)) && (decide (c ≤ 122))) || ((decide (65 ≤ c)) && (decide (c ≤ 90)))) = false], (((((decide (97 ≤ c)) && (decide (c ≤ 122))) || ((decide (65 ≤ c)) && (decide (c ≤ 90)))) = false) ∧ (decide (48 ≤ c)) = true) → allP [((((decide (97 ≤ c)) && (decide (c ≤ 122))) || ((decide (65 ≤ c)) && (decide (c ≤ 90)))) = false) ∧ (decide (48 ≤ c)) = true], ((((decide (97 ≤ c)) && (decide (c ≤ 122))) || ((decide (65 ≤ c)) && (decide (c ≤ 90)))) = false) → allP [(((decide (97 ≤ c)) && (decide (c ≤ 122))) || ((decide (65 ≤ c)) && (decide (c ≤ 90)))) = false, (decide (48 ≤ c)) = true → allP [((((decide (97 ≤ c)) && (decide (c ≤ 122))) || ((decide (65 ≤ c)) && (decide (c ≤ 90)))) = false) ∧ (decide (48 ≤ c)) = true]], (((decide (97 ≤ c)) && (decide (c ≤ 122))) || ((decide (65 ≤ c)) && (decide (c ≤ 90)))) = false → allP [(((decide (97 ≤ c)) && (decide (c ≤ 122))) || ((decide (65 ≤ c)) && (decide (c ≤ 90)))) = false], (((((decide (97 ≤ c)) && (decide (c ≤ 122))) || ((decide (65 ≤ c)) && (decide (c ≤ 90)))) || ((decide (48 ≤ c)) && (decide (c ≤ 57)))) = false) → allP [((((decide (97 ≤ c)) && (decide (c ≤ 122))) || ((decide (65 ≤ c)) && (decide (c ≤ 90)))) || ((decide (48 ≤ c)) && (decide (c ≤ 57)))) = false], ((((decide (97 ≤ c)) && (decide (c ≤ 122))) || ((decide (65 ≤ c)) && (decide (c ≤ 90)))) || ((decide (48 ≤ c)) && (decide (c ≤ 57)))) = false → allP [((((decide (97 ≤ c)) && (decide (c ≤ 122))) || ((decide (65 ≤ c)) && (decide (c ≤ 90)))) || ((decide (48 ≤ c)) && (decide (c ≤ 57)))) = false], ((((((decide (97 ≤ c)) && (decide (c ≤ 122))) || ((decide (65 ≤ c)) && (decide (c ≤ 90)))) || ((decide (48 ≤ c)) && (decide (c ≤ 57)))) || (decide (c = 45))) = false) → allP [(((((decide (97 ≤ c)) && (decide (c ≤ 122))) || ((decide (65 ≤ c)) && (decide (c ≤ 90)))) || ((decide (48 ≤ c)) && (decide (c ≤ 57)))) || (decide (c = 45))) = false], (((((decide (97 ≤ c)) && (decide (c ≤ 122))) || ((decide (65 ≤ c)) && (decide (c ≤ 90)))) || ((decide (48 ≤ c)) && (decide (c ≤ 57)))) || (decide (c = 45))) = false → allP [(((((decide (97 ≤ c)) && (decide (c ≤ 122))) || ((decide (65 ≤ c)) && (decide (c ≤ 90)))) || ((decide (48 ≤ c)) && (decide (c ≤ 57)))) || (decide (c = 45))) = false], (((((((decide (97 ≤ c)) && (decide (c ≤ 122))) || ((decide (65 ≤ c)) && (decide (c ≤ 90)))) || ((decide (48 ≤ c)) && (decide (c ≤ 57)))) || (decide (c = 45))) || (decide (c = 46))) = false) → allP [((((((decide (97 ≤ c)) && (decide (c ≤ 122))) || ((decide (65 ≤ c)) && (decide (c ≤ 90)))) || ((decide (48 ≤ c)) && (decide (c ≤ 57)))) || (decide (c = 45))) || (decide (c = 46))) = false], ((((((decide (97 ≤ c)) && (decide (c ≤ 122))) || ((decide (65 ≤ c)) && (decide (c ≤ 90)))) || ((decide (48 ≤ c)) && (decide (c ≤ 57)))) || (decide (c = 45))) || (decide (c = 46))) = false → allP [((((((decide (97 ≤ c)) && (decide (c ≤ 122))) || ((decide (65 ≤ c)) && (decide (c ≤ 90)))) || ((decide (48 ≤ c)) && (decide (c ≤ 57)))) || (decide (c = 45))) || (decide (c = 46))) = false], ((((((((decide (97 ≤ c)) && (decide (c ≤ 122))) || ((decide (65 ≤ c)) && (decide (c ≤ 90)))) || ((decide (48 ≤ c)) && (decide (c ≤ 57)))) || (decide (c = 45))) || (decide (c = 46))) || (decide (c = 95))) = false) → allP [(((((((decide (97 ≤ c)) && (decide (c ≤ 122))) || ((decide (65 ≤ c)) && (decide (c ≤ 90)))) || ((decide (48 ≤ c)) && (decide (c ≤ 57)))) || (decide (c = 45))) || (decide (c = 46))) || (decide (c = 95))) = false], ((((((((decide (97 ≤ c)) && (decide (c ≤ 122))) || ((decide (65 ≤ c)) && (decide (c ≤ 90)))) || ((decide (48 ≤ c)) && (decide (c ≤ 57)))) || (decide (c = 45))) || (decide (c = 46))) || (decide (c = 95))) = false) → allP [(((((((decide (97 ≤ c)) && (decide (c ≤ 122))) || ((decide (65 ≤ c)) && (decide (c ≤ 90)))) || ((decide (48 ≤ c)) && (decide (c ≤ 57)))) || (decide (c = 45))) || (decide (c = 46))) || (decide (c = 95))) = false], (((((((((decide (97 ≤ c)) && (decide (c ≤ 122))) || ((decide (65 ≤ c)) && (decide (c ≤ 90)))) || ((decide (48 ≤ c)) && (decide (c ≤ 57)))) || (decide (c = 45))) || (decide (c = 46))) || (decide (c = 95))) = false) ∧ (decide (192 ≤ c)) = true) → allP [((((((((decide (97 ≤ c)) && (decide (c ≤ 122))) || ((decide (65 ≤ c)) && (decide (c ≤ 90)))) || ((decide (48 ≤ c)) && (decide (c ≤ 57)))) || (decide (c = 45))) || (decide (c = 46))) || (decide (c = 95))) = false) ∧ (decide (192 ≤ c)) = true], ((((((((decide (97 ≤ c)) && (decide (c ≤ 122))) || ((decide (65 ≤ c)) && (decide (c ≤ 90)))) || ((decide (48 ≤ c)) && (decide (c ≤ 57)))) || (decide (c = 45))) || (decide (c = 46))) || (decide (c = 95))) = false) → allP [(((((((decide (97 ≤ c)) && (decide (c ≤ 122))) || ((decide (65 ≤ c)) && (decide (c ≤ 90)))) || ((decide (48 ≤ c)) && (decide (c ≤ 57)))) || (decide (c = 45))) || (decide (c = 46))) || (decide (c = 95))) = false, (decide (192 ≤ c)) = true → allP [((((((((decide (97 ≤ c)) && (decide (c ≤ 122))) || ((decide (65 ≤ c)) && (decide (c ≤ 90)))) || ((decide (48 ≤ c)) && (decide (c ≤ 57)))) || (decide (c = 45))) || (decide (c = 46))) || (decide (c = 95))) = false) ∧ (decide (192 ≤ c)) = true]], (((((((decide (97 ≤ c)) && (decide (c ≤ 122))) || ((decide (65 ≤ c)) && (decide (c ≤ 90)))) || ((decide (48 ≤ c)) && (decide (c ≤ 57)))) || (decide (c = 45))) || (decide (c = 46))) || (decide (c = 95))) = false → allP [(((((((decide (97 ≤ c)) && (decide (c ≤ 122))) || ((decide (65 ≤ c)) && (decide (c ≤ 90)))) || ((decide (48 ≤ c)) && (decide (c ≤ 57)))) || (decide (c = 45))) || (decide (c = 46))) || (decide (c = 95))) = false]] 45 [(2, vc (bo ((((((((decide (97 ≤ c)) && (decide (c ≤ 122))) || ((decide (65 ≤ c)) && (decide (c ≤ 90)))) || ((decide (48 ≤ c)) && (decide (c ≤ 57)))) || (decide (c = 45))) || (decide (c = 46))) || (decide (c = 95))) || ((decide (192 ≤ c)) && (decide (c ≤ 55295))))))] [] ⟨(fun hp => hp), (fun hp2 => (by first | exact hp2 | exact ⟨hp, hp2⟩)), (fun hp => hp), (fun hp => hp), (fun hp => hp), (fun hp => by have hq := hp; (try simp only [xT, xF, xA, xO, xB, xP, xN, xM, Bool.not_eq_true, Bool.not_eq_false] at hq); exact ⟨hp, (fun hp2 => (by first | exact hp2 | exact ⟨hp, hp2⟩))⟩), (fun hp2 => (by first | exact hp2 | exact ⟨hp, hp2⟩)), (fun hp => hp), (fun hp => hp), (fun hp => hp), (fun hp => by have hq := hp; (try simp only [xT, xF, xA, xO, xB, xP, xN, xM, Bool.not_eq_true, Bool.not_eq_false] at hq); exact ⟨hp, (fun hp2 => (by first | exact hp2 | exact ⟨hp, hp2⟩))⟩), (fun hp2 => (by first | exact hp2 | exact ⟨hp, hp2⟩)), (fun hp => hp), (fun hp2 => (by first | exact hp2 | exact ⟨hp, hp2⟩)), (fun hp => hp), (fun hp2 => (by first | exact hp2 | exact ⟨hp, hp2⟩)), (fun hp => hp), (fun hp2 => (by first | exact hp2 | exact ⟨hp, hp2⟩)), (fun hp => hp), (fun hp => hp), (fun hp => hp), (fun hp => by have hq := hp; (try simp only [xT, xF, xA, xO, xB, xP, xN, xM, Bool.not_eq_true, Bool.not_eq_false] at hq); exact ⟨hp, (fun hp2 => (by first | exact hp2 | exact ⟨hp, hp2⟩))⟩), (fun hp2 => (by first | exact hp2 | exact ⟨hp, hp2⟩))⟩ ?_
 exact gT (vc (bo ((((((((decide (97 ≤ c)) && (decide (c ≤ 122))) || ((decide (65 ≤ c)) && (decide (c ≤ 90)))) || ((decide (48 ≤ c)) && (decide (c ≤ 57)))) || (decide (c = 45))) || (decide (c = 46))) || (decide (c = 95))) || ((decide (192 ≤ c)) && (decide (c ≤ 55295)))))) (by rw [show runeOk c = ((((((((decide (97 ≤ c)) && (decide (c ≤ 122))) || ((decide (65 ≤ c)) && (decide (c ≤ 90)))) || ((decide (48 ≤ c)) && (decide (c ≤ 57)))) || (decide (c = 45))) || (decide (c = 46))) || (decide (c = 95))) || ((decide (192 ≤ c)) && (decide (c ≤ 55295)))) from by first | rfl | (unfold runeOk; rw [Bool.eq_iff_iff]; simp only [Bool.or_eq_true, Bool.and_eq_true, decide_eq_true_eq, iff_true, Bool.false_eq_true, iff_false] <;> omega)])
theorem f152_body : Tryz.f152.body = some (.seq (.region 0 (rg Tryz.f152 0) false) (.seq (.region 1 (rg Tryz.f152 1) false) (.ret))) := by kernel_rfl
set_option maxRecDepth 100000 in
set_option maxHeartbeats 8000000 in
theorem tail_c (s : Bytes) (i : Int) (hi : 0 ≤ i) : Pure Tryz.prog 152 [tc (st s), tc (i6 i)] (vc (bo (tailS s i))) := by
 refine Pure.of_body Tryz.func152 f152_body (by kernel_rfl) Tryz.ntmps152 (by kernel_rfl) (by kernel_rfl) ?_
 refine gS [] [] 21 [(0, vc (st s)), (1, vc (i6 i))] [] trivial ?_
 refine gS [] [((decide (i < (List.length s : Int))) = true) → allP [(decide (i < (List.length s : Int))) = true, (decide (i < (List.length s : Int))) = true, (0 : Int) ≤ i, i < List.length s], ((decide (i < (List.length s : Int))) = true) → allP [(decide (i < (List.length s : Int))) = true], (decide (i < (List.length s : Int))) = true → allP [(decide (i < (List.length s : Int))) = true], (((decide (i < (List.length s : Int))) && (decide (128 ≤ ((List.getD s (i).toNat 0).toNat : Int)))) = true) → allP [((decide (i < (List.length s : Int))) && (decide (128 ≤ ((List.getD s (i).toNat 0).toNat : Int)))) = true, ((decide (i < (List.length s : Int))) && (decide (128 ≤ ((List.getD s (i).toNat 0).toNat : Int)))) = true, (0 : Int) ≤ i, i < List.length s], (((decide (i < (List.length s : Int))) && (decide (128 ≤ ((List.getD s (i).toNat 0).toNat : Int)))) = true) → allP [((decide (i < (List.length s : Int))) && (decide (128 ≤ ((List.getD s (i).toNat 0).toNat : Int)))) = true], ((decide (i < (List.length s : Int))) && (decide (128 ≤ ((List.getD s (i).toNat 0).toNat : Int)))) = true → allP [((decide (i < (List.length s : Int))) && (decide (128 ≤ ((List.getD s (i).toNat 0).toNat : Int)))) = true]] 21 [(4, vc (bo (((decide (i < (List.length s : Int))) && (decide (128 ≤ ((List.getD s (i).toNat 0).toNat : Int)))) && (decide (((List.getD s (i).toNat 0).toNat : Int) < 192)))))] [] ⟨(fun hp => by have hq := hp; (try simp only [xT, xF, xA, xO, xB, xP, xN, xM, Bool.not_eq_true, Bool.not_eq_false] at hq); exact ⟨hp, hp, (by omega), (show i < List.length s from (by omega))⟩), (fun hp => hp), (fun hp2 => (by first | exact hp2 | exact ⟨hp, hp2⟩)), (fun hp => by have hq := hp; (try simp only [xT, xF, xA, xO, xB, xP, xN, xM, Bool.not_eq_true, Bool.not_eq_false] at hq); exact ⟨hp, hp, (by omega), (show i < List.length s from (by omega))⟩), (fun hp => hp), (fun hp2 => (by first | exact hp2 | exact ⟨hp, hp2⟩))⟩ ?_
 exact gT (vc (bo (((decide (i < (List.length s : Int))) && (decide (128 ≤ ((List.getD s (i).toNat 0).toNat : Int)))) && (decide (((List.getD s (i).toNat 0).toNat : Int) < 192))))) (by rw [show tailS s i = (((decide (i < (List.length s : Int))) && (decide (128 ≤ ((List.getD s (i).toNat 0).toNat : Int)))) && (decide (((List.getD s (i).toNat 0).toNat : Int) < 192))) from by unfold tailS; first | rfl | (rw [Bool.eq_iff_iff]; simp only [Bool.or_eq_true, Bool.and_eq_true, decide_eq_true_eq]; omega)])
theorem f153_body : Tryz.f153.body = some (.seq (.region 0 (rg Tryz.f153 0) false) (.seq (.region 1 (rg Tryz.f153 1) false) (.ret))) := by kernel_rfl
set_option maxRecDepth 100000 in
set_option maxHeartbeats 8000000 in
theorem low_c (s : Bytes) (i : Int) (hi : 0 ≤ i ∧ i < (List.length s : Int)) : Pure Tryz.prog 153 [tc (st s), tc (i6 i)] (vc (i6 (((List.getD s i.toNat 0).toNat : Int) - 128))) := by
 refine Pure.of_body Tryz.func153 f153_body (by kernel_rfl) Tryz.ntmps153 (by kernel_rfl) (by kernel_rfl) ?_
 refine gS [] [] 10 [(0, vc (st s)), (1, vc (i6 i))] [] trivial ?_
 refine gS [] [(0 : Int) ≤ i, i < List.length s, InR .i64 (((List.getD s (i).toNat 0).toNat : Int) - 128)] 10 [(4, vc (i6 (((List.getD s (i).toNat 0).toNat : Int) - 128)))] [] ⟨(by omega), (by omega), (show InR .i64 (((List.getD s (i).toNat 0).toNat : Int) - 128) from (inR64 (by omega) (by first | omega | (have := byte_lt s i.toNat; omega))))⟩ ?_
 exact gT (vc (i6 (((List.getD s (i).toNat 0).toNat : Int) - 128))) rfl
theorem f133_body : Tryz.f133.body = some (.seq (.region 0 (rg Tryz.f133 0) false) (.seq (.region 1 (rg Tryz.f133 1) false) (.seq (.seq (.region 2 (rg Tryz.f133 2) false) (.cond (.tmp 15) (.seq (.region 3 (rg Tryz.f133 3) false) (.ret)) (.skip))) (.seq (.seq (.region 4 (rg Tryz.f133 4) false) (.cond (.tmp 28) (.seq (.region 5 (rg Tryz.f133 5) false) (.seq (.region 6 (rg Tryz.f133 6) false) (.cond (.tmp 38) (.seq (.region 7 (rg Tryz.f133 7) false) (.ret)) (.skip)))) (.skip))) (.seq (.seq (.region 8 (rg Tryz.f133 8) false) (.cond (.tmp 57) (.seq (.region 9 (rg Tryz.f133 9) false) (.seq (.region 10 (rg Tryz.f133 10) false) (.cond (.tmp 81) (.seq (.region 11 (rg Tryz.f133 11) false) (.ret)) (.skip)))) (.skip))) (.seq (.seq (.region 12 (rg Tryz.f133 12) false) (.cond (.tmp 106) (.seq (.region 13 (rg Tryz.f133 13) false) (.seq (.region 14 (rg Tryz.f133 14) false) (.cond (.tmp 132) (.seq (.region 15 (rg Tryz.f133 15) false) (.ret)) (.skip)))) (.skip))) (.seq (.region 16 (rg Tryz.f133 16) false) (.ret)))))))) := by kernel_rfl
set_option maxRecDepth 100000 in
set_option maxHeartbeats 8000000 in
theorem Next_c (s : Bytes) (i : Nat) (hi : i < s.length) (hl : s.length ≤ 100000) : Pure Tryz.prog 133 [tc (st s), tc (i6 (i : Int))] (AV.tup [tc (i6 ((nextS s i).1)), tc (i6 ((nextS s i).2))]) := by
 refine Pure.of_body Tryz.func133 f133_body (by kernel_rfl) Tryz.ntmps133 (by kernel_rfl) (by kernel_rfl) ?_
 have e1 : ((i : Int) + 1).toNat = i + 1 := by omega
 have e2 : ((i : Int) + 2).toNat = i + 2 := by omega
 have e3 : ((i : Int) + 3).toNat = i + 3 := by omega
 have b0 := byte_lt s i
 have b1 := byte_lt s (i + 1)
 have b2 := byte_lt s (i + 2)
 have b3 := byte_lt s (i + 3)
 refine gS [] [] 134 [(0, vc (st s)), (1, vc (i6 (i : Int)))] [] trivial ?_
 refine gS [] [(0 : Int) ≤ (i : Int), (i : Int) < List.length s] 134 [(0, vc (st s)), (1, vc (i6 (i : Int))), (6, vc (i6 ((List.getD s i 0).toNat : Int)))] [] ⟨(by omega), (show (i : Int) < List.length s from (by omega))⟩ ?_
 refine gQ ?_
 refine gS [] [] 134 [(0, vc (st s)), (1, vc (i6 (i : Int))), (6, vc (i6 ((List.getD s i 0).toNat : Int))), (15, vc (bo (decide (((List.getD s i 0).toNat : Int) < 128))))] [] trivial ?_
 refine gC (((List.getD s i 0).toNat : Int) < 128) (fun hc1 => ?_) fun hc1 => ?_
 ·
  refine gS [] [] 134 [(4, vc (i6 ((List.getD s i 0).toNat : Int))), (5, vc (i6 1))] [] trivial ?_
  exact gT (AV.tup [tc (i6 ((List.getD s i 0).toNat : Int)), tc (i6 1)]) (by rw [show (nextS s i) = (((List.getD s i 0).toNat : Int), 1) from by rw [next_1 (by omega)]])
 ·
  refine AMx.skip ?_
  refine gQ ?_
  refine gS [(10, CE.call [] [] (vc (bo (tailS s ((i : Int) + 1)))) [])] [((decide (192 ≤ ((List.getD s i 0).toNat : Int))) = true) → allP [(decide (192 ≤ ((List.getD s i 0).toNat : Int))) = true], (decide (192 ≤ ((List.getD s i 0).toNat : Int))) = true → allP [(decide (192 ≤ ((List.getD s i 0).toNat : Int))) = true], (((decide (192 ≤ ((List.getD s i 0).toNat : Int))) && (decide (((List.getD s i 0).toNat : Int) < 224))) = true) → allP [((decide (192 ≤ ((List.getD s i 0).toNat : Int))) && (decide (((List.getD s i 0).toNat : Int) < 224))) = true, InR .i64 ((i : Int) + 1)], (((decide (192 ≤ ((List.getD s i 0).toNat : Int))) && (decide (((List.getD s i 0).toNat : Int) < 224))) = true) → allP [((decide (192 ≤ ((List.getD s i 0).toNat : Int))) && (decide (((List.getD s i 0).toNat : Int) < 224))) = true, ((decide (192 ≤ ((List.getD s i 0).toNat : Int))) && (decide (((List.getD s i 0).toNat : Int) < 224))) = true, Spec Tryz.prog 152 [tc (st s), tc (i6 ((i : Int) + 1))] (ofH []) (vc (bo (tailS s ((i : Int) + 1)))) (ofH [])], ((decide (192 ≤ ((List.getD s i 0).toNat : Int))) && (decide (((List.getD s i 0).toNat : Int) < 224))) = true → allP [((decide (192 ≤ ((List.getD s i 0).toNat : Int))) && (decide (((List.getD s i 0).toNat : Int) < 224))) = true]] 134 [(0, vc (st s)), (1, vc (i6 (i : Int))), (6, vc (i6 ((List.getD s i 0).toNat : Int))), (28, vc (bo (((decide (192 ≤ ((List.getD s i 0).toNat : Int))) && (decide (((List.getD s i 0).toNat : Int) < 224))) && (tailS s ((i : Int) + 1)))))] [] ⟨(fun hp => hp), (fun hp2 => (by first | exact hp2 | exact ⟨hp, hp2⟩)), (fun hp => by have hq := hp; (try simp only [xT, xF, xA, xO, xB, xP, xN, xM, Bool.not_eq_true, Bool.not_eq_false] at hq); exact ⟨hp, (show InR .i64 ((i : Int) + 1) from (inR64 (by omega) (by omega)))⟩), (fun hp => by have hq := hp; (try simp only [xT, xF, xA, xO, xB, xP, xN, xM, Bool.not_eq_true, Bool.not_eq_false] at hq); exact ⟨hp, hp, (tail_c s ((i : Int) + 1) (by omega))⟩), (fun hp2 => (by first | exact hp2 | exact ⟨hp, hp2⟩))⟩ ?_
  refine gB ((((decide (192 ≤ ((List.getD s i 0).toNat : Int))) && (decide (((List.getD s i 0).toNat : Int) < 224))) && (tailS s ((i : Int) + 1)))) (fun hc2 => ?_) fun hc2 => ?_
  ·
   try simp only [xT, xF, xA, xB] at hc2
   refine gS [(6, CE.call [] [] (vc (i6 (((List.getD s ((i : Int) + 1).toNat 0).toNat : Int) - 128))) [])] [InR .i64 (((List.getD s i 0).toNat : Int) - 192), InR .i64 (64 * (((List.getD s i 0).toNat : Int) - 192)), InR .i64 ((i : Int) + 1), Spec Tryz.prog 153 [tc (st s), tc (i6 ((i : Int) + 1))] (ofH []) (vc (i6 (((List.getD s ((i : Int) + 1).toNat 0).toNat : Int) - 128))) (ofH []), InR .i64 ((64 * (((List.getD s i 0).toNat : Int) - 192)) + (((List.getD s ((i : Int) + 1).toNat 0).toNat : Int) - 128))] 134 [(0, vc (st s)), (1, vc (i6 (i : Int))), (6, vc (i6 ((List.getD s i 0).toNat : Int))), (7, vc (i6 ((64 * (((List.getD s i 0).toNat : Int) - 192)) + (((List.getD s ((i : Int) + 1).toNat 0).toNat : Int) - 128))))] [] ⟨(inR64 (by omega) (by omega)), (inR64 (by omega) (by omega)), (inR64 (by omega) (by omega)), (low_c s ((i : Int) + 1) (by first | omega | (simp only [tail_iff, tail_neg, Bool.and_eq_true, decide_eq_true_eq] at * <;> omega))), (show InR .i64 ((64 * (((List.getD s i 0).toNat : Int) - 192)) + (((List.getD s ((i : Int) + 1).toNat 0).toNat : Int) - 128)) from (inR64 (by omega) (by first | omega | (simp only [tail_iff, tail_neg, e1, e2, e3] at * <;> omega))))⟩ ?_
   refine gS [] [] 134 [(0, vc (st s)), (1, vc (i6 (i : Int))), (6, vc (i6 ((List.getD s i 0).toNat : Int))), (7, vc (i6 ((64 * (((List.getD s i 0).toNat : Int) - 192)) + (((List.getD s ((i : Int) + 1).toNat 0).toNat : Int) - 128)))), (38, vc (bo (decide (128 ≤ (64 * (((List.getD s i 0).toNat : Int) - 192)) + (((List.getD s ((i : Int) + 1).toNat 0).toNat : Int) - 128)))))] [] trivial ?_
   refine gC (128 ≤ (64 * (((List.getD s i 0).toNat : Int) - 192)) + (((List.getD s ((i : Int) + 1).toNat 0).toNat : Int) - 128)) (fun hc3 => ?_) fun hc3 => ?_
   ·
    refine gS [] [] 134 [(4, vc (i6 ((64 * (((List.getD s i 0).toNat : Int) - 192)) + (((List.getD s ((i : Int) + 1).toNat 0).toNat : Int) - 128)))), (5, vc (i6 2))] [] trivial ?_
    exact gT (AV.tup [tc (i6 ((64 * (((List.getD s i 0).toNat : Int) - 192)) + (((List.getD s ((i : Int) + 1).toNat 0).toNat : Int) - 128))), tc (i6 2)]) (by rw [show (nextS s i) = ((64 * (((List.getD s i 0).toNat : Int) - 192)) + (((List.getD s ((i : Int) + 1).toNat 0).toNat : Int) - 128), 2) from by simp only [tail_iff, tail_neg, e1, e2, e3, Bool.and_eq_true, decide_eq_true_eq] at *; rw [next_2 rfl rfl (by omega) (by omega) (by omega)] <;> exact Prod.ext (by simp only []; omega) rfl])
   ·
    refine AMx.skip ?_
    refine gQ ?_
    refine gS [(10, CE.call [] [] (vc (bo (tailS s ((i : Int) + 1)))) []), (16, CE.call [] [] (vc (bo (tailS s ((i : Int) + 2)))) [])] [((decide (224 ≤ ((List.getD s i 0).toNat : Int))) = true) → allP [(decide (224 ≤ ((List.getD s i 0).toNat : Int))) = true], (decide (224 ≤ ((List.getD s i 0).toNat : Int))) = true → allP [(decide (224 ≤ ((List.getD s i 0).toNat : Int))) = true], (((decide (224 ≤ ((List.getD s i 0).toNat : Int))) && (decide (((List.getD s i 0).toNat : Int) < 240))) = true) → allP [((decide (224 ≤ ((List.getD s i 0).toNat : Int))) && (decide (((List.getD s i 0).toNat : Int) < 240))) = true, InR .i64 ((i : Int) + 1)], (((decide (224 ≤ ((List.getD s i 0).toNat : Int))) && (decide (((List.getD s i 0).toNat : Int) < 240))) = true) → allP [((decide (224 ≤ ((List.getD s i 0).toNat : Int))) && (decide (((List.getD s i 0).toNat : Int) < 240))) = true, ((decide (224 ≤ ((List.getD s i 0).toNat : Int))) && (decide (((List.getD s i 0).toNat : Int) < 240))) = true, Spec Tryz.prog 152 [tc (st s), tc (i6 ((i : Int) + 1))] (ofH []) (vc (bo (tailS s ((i : Int) + 1)))) (ofH [])], ((decide (224 ≤ ((List.getD s i 0).toNat : Int))) && (decide (((List.getD s i 0).toNat : Int) < 240))) = true → allP [((decide (224 ≤ ((List.getD s i 0).toNat : Int))) && (decide (((List.getD s i 0).toNat : Int) < 240))) = true], ((((decide (224 ≤ ((List.getD s i 0).toNat : Int))) && (decide (((List.getD s i 0).toNat : Int) < 240))) && (tailS s ((i : Int) + 1))) = true) → allP [(((decide (224 ≤ ((List.getD s i 0).toNat : Int))) && (decide (((List.getD s i 0).toNat : Int) < 240))) && (tailS s ((i : Int) + 1))) = true, InR .i64 ((i : Int) + 2)], ((((decide (224 ≤ ((List.getD s i 0).toNat : Int))) && (decide (((List.getD s i 0).toNat : Int) < 240))) && (tailS s ((i : Int) + 1))) = true) → allP [(((decide (224 ≤ ((List.getD s i 0).toNat : Int))) && (decide (((List.getD s i 0).toNat : Int) < 240))) && (tailS s ((i : Int) + 1))) = true, (((decide (224 ≤ ((List.getD s i 0).toNat : Int))) && (decide (((List.getD s i 0).toNat : Int) < 240))) && (tailS s ((i : Int) + 1))) = true, Spec Tryz.prog 152 [tc (st s), tc (i6 ((i : Int) + 2))] (ofH []) (vc (bo (tailS s ((i : Int) + 2)))) (ofH [])], (((decide (224 ≤ ((List.getD s i 0).toNat : Int))) && (decide (((List.getD s i 0).toNat : Int) < 240))) && (tailS s ((i : Int) + 1))) = true → allP [(((decide (224 ≤ ((List.getD s i 0).toNat : Int))) && (decide (((List.getD s i 0).toNat : Int) < 240))) && (tailS s ((i : Int) + 1))) = true]] 134 [(0, vc (st s)), (1, vc (i6 (i : Int))), (6, vc (i6 ((List.getD s i 0).toNat : Int))), (57, vc (bo ((((decide (224 ≤ ((List.getD s i 0).toNat : Int))) && (decide (((List.getD s i 0).toNat : Int) < 240))) && (tailS s ((i : Int) + 1))) && (tailS s ((i : Int) + 2)))))] [] ⟨(fun hp => hp), (fun hp2 => (by first | exact hp2 | exact ⟨hp, hp2⟩)), (fun hp => by have hq := hp; (try simp only [xT, xF, xA, xO, xB, xP, xN, xM, Bool.not_eq_true, Bool.not_eq_false] at hq); exact ⟨hp, (show InR .i64 ((i : Int) + 1) from (inR64 (by omega) (by omega)))⟩), (fun hp => by have hq := hp; (try simp only [xT, xF, xA, xO, xB, xP, xN, xM, Bool.not_eq_true, Bool.not_eq_false] at hq); exact ⟨hp, hp, (tail_c s ((i : Int) + 1) (by omega))⟩), (fun hp2 => (by first | exact hp2 | exact ⟨hp, hp2⟩)), (fun hp => by have hq := hp; (try simp only [xT, xF, xA, xO, xB, xP, xN, xM, Bool.not_eq_true, Bool.not_eq_false] at hq); exact ⟨hp, (show InR .i64 ((i : Int) + 2) from (inR64 (by omega) (by omega)))⟩), (fun hp => by have hq := hp; (try simp only [xT, xF, xA, xO, xB, xP, xN, xM, Bool.not_eq_true, Bool.not_eq_false] at hq); exact ⟨hp, hp, (tail_c s ((i : Int) + 2) (by omega))⟩), (fun hp2 => (by first | exact hp2 | exact ⟨hp, hp2⟩))⟩ ?_
    refine gB (((((decide (224 ≤ ((List.getD s i 0).toNat : Int))) && (decide (((List.getD s i 0).toNat : Int) < 240))) && (tailS s ((i : Int) + 1))) && (tailS s ((i : Int) + 2)))) (fun hc4 => ?_) fun hc4 => ?_
    ·
     try simp only [xT, xF, xA, xB] at hc4
     exfalso; first | omega | (simp only [tail_iff, tail_neg, e1, e2, e3] at * <;> omega)
    ·
     try simp only [xT, xF, xA, xB] at hc4
     refine AMx.skip ?_
     refine gQ ?_
     refine gS [(10, CE.call [] [] (vc (bo (tailS s ((i : Int) + 1)))) []), (16, CE.call [] [] (vc (bo (tailS s ((i : Int) + 2)))) []), (22, CE.call [] [] (vc (bo (tailS s ((i : Int) + 3)))) [])] [((decide (240 ≤ ((List.getD s i 0).toNat : Int))) = true) → allP [(decide (240 ≤ ((List.getD s i 0).toNat : Int))) = true], (decide (240 ≤ ((List.getD s i 0).toNat : Int))) = true → allP [(decide (240 ≤ ((List.getD s i 0).toNat : Int))) = true], (((decide (240 ≤ ((List.getD s i 0).toNat : Int))) && (decide (((List.getD s i 0).toNat : Int) < 248))) = true) → allP [((decide (240 ≤ ((List.getD s i 0).toNat : Int))) && (decide (((List.getD s i 0).toNat : Int) < 248))) = true, InR .i64 ((i : Int) + 1)], (((decide (240 ≤ ((List.getD s i 0).toNat : Int))) && (decide (((List.getD s i 0).toNat : Int) < 248))) = true) → allP [((decide (240 ≤ ((List.getD s i 0).toNat : Int))) && (decide (((List.getD s i 0).toNat : Int) < 248))) = true, ((decide (240 ≤ ((List.getD s i 0).toNat : Int))) && (decide (((List.getD s i 0).toNat : Int) < 248))) = true, Spec Tryz.prog 152 [tc (st s), tc (i6 ((i : Int) + 1))] (ofH []) (vc (bo (tailS s ((i : Int) + 1)))) (ofH [])], ((decide (240 ≤ ((List.getD s i 0).toNat : Int))) && (decide (((List.getD s i 0).toNat : Int) < 248))) = true → allP [((decide (240 ≤ ((List.getD s i 0).toNat : Int))) && (decide (((List.getD s i 0).toNat : Int) < 248))) = true], ((((decide (240 ≤ ((List.getD s i 0).toNat : Int))) && (decide (((List.getD s i 0).toNat : Int) < 248))) && (tailS s ((i : Int) + 1))) = true) → allP [(((decide (240 ≤ ((List.getD s i 0).toNat : Int))) && (decide (((List.getD s i 0).toNat : Int) < 248))) && (tailS s ((i : Int) + 1))) = true, InR .i64 ((i : Int) + 2)], ((((decide (240 ≤ ((List.getD s i 0).toNat : Int))) && (decide (((List.getD s i 0).toNat : Int) < 248))) && (tailS s ((i : Int) + 1))) = true) → allP [(((decide (240 ≤ ((List.getD s i 0).toNat : Int))) && (decide (((List.getD s i 0).toNat : Int) < 248))) && (tailS s ((i : Int) + 1))) = true, (((decide (240 ≤ ((List.getD s i 0).toNat : Int))) && (decide (((List.getD s i 0).toNat : Int) < 248))) && (tailS s ((i : Int) + 1))) = true, Spec Tryz.prog 152 [tc (st s), tc (i6 ((i : Int) + 2))] (ofH []) (vc (bo (tailS s ((i : Int) + 2)))) (ofH [])], (((decide (240 ≤ ((List.getD s i 0).toNat : Int))) && (decide (((List.getD s i 0).toNat : Int) < 248))) && (tailS s ((i : Int) + 1))) = true → allP [(((decide (240 ≤ ((List.getD s i 0).toNat : Int))) && (decide (((List.getD s i 0).toNat : Int) < 248))) && (tailS s ((i : Int) + 1))) = true], (((((decide (240 ≤ ((List.getD s i 0).toNat : Int))) && (decide (((List.getD s i 0).toNat : Int) < 248))) && (tailS s ((i : Int) + 1))) && (tailS s ((i : Int) + 2))) = true) → allP [((((decide (240 ≤ ((List.getD s i 0).toNat : Int))) && (decide (((List.getD s i 0).toNat : Int) < 248))) && (tailS s ((i : Int) + 1))) && (tailS s ((i : Int) + 2))) = true, InR .i64 ((i : Int) + 3)], (((((decide (240 ≤ ((List.getD s i 0).toNat : Int))) && (decide (((List.getD s i 0).toNat : Int) < 248))) && (tailS s ((i : Int) + 1))) && (tailS s ((i : Int) + 2))) = true) → allP [((((decide (240 ≤ ((List.getD s i 0).toNat : Int))) && (decide (((List.getD s i 0).toNat : Int) < 248))) && (tailS s ((i : Int) + 1))) && (tailS s ((i : Int) + 2))) = true, ((((decide (240 ≤ ((List.getD s i 0).toNat : Int))) && (decide (((List.getD s i 0).toNat : Int) < 248))) && (tailS s ((i : Int) + 1))) && (tailS s ((i : Int) + 2))) = true, Spec Tryz.prog 152 [tc (st s), tc (i6 ((i : Int) + 3))] (ofH []) (vc (bo (tailS s ((i : Int) + 3)))) (ofH [])], ((((decide (240 ≤ ((List.getD s i 0).toNat : Int))) && (decide (((List.getD s i 0).toNat : Int) < 248))) && (tailS s ((i : Int) + 1))) && (tailS s ((i : Int) + 2))) = true → allP [((((decide (240 ≤ ((List.getD s i 0).toNat : Int))) && (decide (((List.getD s i 0).toNat : Int) < 248))) && (tailS s ((i : Int) + 1))) && (tailS s ((i : Int) + 2))) = true]] 134 [(0, vc (st s)), (1, vc (i6 (i : Int))), (6, vc (i6 ((List.getD s i 0).toNat : Int))), (106, vc (bo (((((decide (240 ≤ ((List.getD s i 0).toNat : Int))) && (decide (((List.getD s i 0).toNat : Int) < 248))) && (tailS s ((i : Int) + 1))) && (tailS s ((i : Int) + 2))) && (tailS s ((i : Int) + 3)))))] [] ⟨(fun hp => hp), (fun hp2 => (by first | exact hp2 | exact ⟨hp, hp2⟩)), (fun hp => by have hq := hp; (try simp only [xT, xF, xA, xO, xB, xP, xN, xM, Bool.not_eq_true, Bool.not_eq_false] at hq); exact ⟨hp, (show InR .i64 ((i : Int) + 1) from (inR64 (by omega) (by omega)))⟩), (fun hp => by have hq := hp; (try simp only [xT, xF, xA, xO, xB, xP, xN, xM, Bool.not_eq_true, Bool.not_eq_false] at hq); exact ⟨hp, hp, (tail_c s ((i : Int) + 1) (by omega))⟩), (fun hp2 => (by first | exact hp2 | exact ⟨hp, hp2⟩)), (fun hp => by have hq := hp; (try simp only [xT, xF, xA, xO, xB, xP, xN, xM, Bool.not_eq_true, Bool.not_eq_false] at hq); exact ⟨hp, (show InR .i64 ((i : Int) + 2) from (inR64 (by omega) (by omega)))⟩), (fun hp => by have hq := hp; (try simp only [xT, xF, xA, xO, xB, xP, xN, xM, Bool.not_eq_true, Bool.not_eq_false] at hq); exact ⟨hp, hp, (tail_c s ((i : Int) + 2) (by omega))⟩), (fun hp2 => (by first | exact hp2 | exact ⟨hp, hp2⟩)), (fun hp => by have hq := hp; (try simp only [xT, xF, xA, xO, xB, xP, xN, xM, Bool.not_eq_true, Bool.not_eq_false] at hq); exact ⟨hp, (show InR .i64 ((i : Int) + 3) from (inR64 (by omega) (by omega)))⟩), (fun hp => by have hq := hp; (try simp only [xT, xF, xA, xO, xB, xP, xN, xM, Bool.not_eq_true, Bool.not_eq_false] at hq); exact ⟨hp, hp, (tail_c s ((i : Int) + 3) (by omega))⟩), (fun hp2 => (by first | exact hp2 | exact ⟨hp, hp2⟩))⟩ ?_
     refine gB ((((((decide (240 ≤ ((List.getD s i 0).toNat : Int))) && (decide (((List.getD s i 0).toNat : Int) < 248))) && (tailS s ((i : Int) + 1))) && (tailS s ((i : Int) + 2))) && (tailS s ((i : Int) + 3)))) (fun hc5 => ?_) fun hc5 => ?_
     ·
      try simp only [xT, xF, xA, xB] at hc5
      exfalso; first | omega | (simp only [tail_iff, tail_neg, e1, e2, e3] at * <;> omega)
     ·
      try simp only [xT, xF, xA, xB] at hc5
      refine AMx.skip ?_
      refine gS [] [] 134 [(4, vc (i6 (-1))), (5, vc (i6 1))] [] trivial ?_
      exact gT (AV.tup [tc (i6 (-1)), tc (i6 1)]) (by rw [show (nextS s i) = ((-1), 1) from by simp only [tail_iff, tail_neg, e1, e2, e3, Bool.and_eq_true, decide_eq_true_eq] at *; exact next_bad hi rfl rfl rfl rfl b0 b1 b2 b3 (by omega) (by omega) (by omega) (by omega)])
  ·
   try simp only [xT, xF, xA, xB] at hc2
   refine AMx.skip ?_
   refine gQ ?_
   refine gS [(10, CE.call [] [] (vc (bo (tailS s ((i : Int) + 1)))) []), (16, CE.call [] [] (vc (bo (tailS s ((i : Int) + 2)))) [])] [((decide (224 ≤ ((List.getD s i 0).toNat : Int))) = true) → allP [(decide (224 ≤ ((List.getD s i 0).toNat : Int))) = true], (decide (224 ≤ ((List.getD s i 0).toNat : Int))) = true → allP [(decide (224 ≤ ((List.getD s i 0).toNat : Int))) = true], (((decide (224 ≤ ((List.getD s i 0).toNat : Int))) && (decide (((List.getD s i 0).toNat : Int) < 240))) = true) → allP [((decide (224 ≤ ((List.getD s i 0).toNat : Int))) && (decide (((List.getD s i 0).toNat : Int) < 240))) = true, InR .i64 ((i : Int) + 1)], (((decide (224 ≤ ((List.getD s i 0).toNat : Int))) && (decide (((List.getD s i 0).toNat : Int) < 240))) = true) → allP [((decide (224 ≤ ((List.getD s i 0).toNat : Int))) && (decide (((List.getD s i 0).toNat : Int) < 240))) = true, ((decide (224 ≤ ((List.getD s i 0).toNat : Int))) && (decide (((List.getD s i 0).toNat : Int) < 240))) = true, Spec Tryz.prog 152 [tc (st s), tc (i6 ((i : Int) + 1))] (ofH []) (vc (bo (tailS s ((i : Int) + 1)))) (ofH [])], ((decide (224 ≤ ((List.getD s i 0).toNat : Int))) && (decide (((List.getD s i 0).toNat : Int) < 240))) = true → allP [((decide (224 ≤ ((List.getD s i 0).toNat : Int))) && (decide (((List.getD s i 0).toNat : Int) < 240))) = true], ((((decide (224 ≤ ((List.getD s i 0).toNat : Int))) && (decide (((List.getD s i 0).toNat : Int) < 240))) && (tailS s ((i : Int) + 1))) = true) → allP [(((decide (224 ≤ ((List.getD s i 0).toNat : Int))) && (decide (((List.getD s i 0).toNat : Int) < 240))) && (tailS s ((i : Int) + 1))) = true, InR .i64 ((i : Int) + 2)], ((((decide (224 ≤ ((List.getD s i 0).toNat : Int))) && (decide (((List.getD s i 0).toNat : Int) < 240))) && (tailS s ((i : Int) + 1))) = true) → allP [(((decide (224 ≤ ((List.getD s i 0).toNat : Int))) && (decide (((List.getD s i 0).toNat : Int) < 240))) && (tailS s ((i : Int) + 1))) = true, (((decide (224 ≤ ((List.getD s i 0).toNat : Int))) && (decide (((List.getD s i 0).toNat : Int) < 240))) && (tailS s ((i : Int) + 1))) = true, Spec Tryz.prog 152 [tc (st s), tc (i6 ((i : Int) + 2))] (ofH []) (vc (bo (tailS s ((i : Int) + 2)))) (ofH [])], (((decide (224 ≤ ((List.getD s i 0).toNat : Int))) && (decide (((List.getD s i 0).toNat : Int) < 240))) && (tailS s ((i : Int) + 1))) = true → allP [(((decide (224 ≤ ((List.getD s i 0).toNat : Int))) && (decide (((List.getD s i 0).toNat : Int) < 240))) && (tailS s ((i : Int) + 1))) = true]] 134 [(0, vc (st s)), (1, vc (i6 (i : Int))), (6, vc (i6 ((List.getD s i 0).toNat : Int))), (57, vc (bo ((((decide (224 ≤ ((List.getD s i 0).toNat : Int))) && (decide (((List.getD s i 0).toNat : Int) < 240))) && (tailS s ((i : Int) + 1))) && (tailS s ((i : Int) + 2)))))] [] ⟨(fun hp => hp), (fun hp2 => (by first | exact hp2 | exact ⟨hp, hp2⟩)), (fun hp => by have hq := hp; (try simp only [xT, xF, xA, xO, xB, xP, xN, xM, Bool.not_eq_true, Bool.not_eq_false] at hq); exact ⟨hp, (show InR .i64 ((i : Int) + 1) from (inR64 (by omega) (by omega)))⟩), (fun hp => by have hq := hp; (try simp only [xT, xF, xA, xO, xB, xP, xN, xM, Bool.not_eq_true, Bool.not_eq_false] at hq); exact ⟨hp, hp, (tail_c s ((i : Int) + 1) (by omega))⟩), (fun hp2 => (by first | exact hp2 | exact ⟨hp, hp2⟩)), (fun hp => by have hq := hp; (try simp only [xT, xF, xA, xO, xB, xP, xN, xM, Bool.not_eq_true, Bool.not_eq_false] at hq); exact ⟨hp, (show InR .i64 ((i : Int) + 2) from (inR64 (by omega) (by omega)))⟩), (fun hp => by have hq := hp; (try simp only [xT, xF, xA, xO, xB, xP, xN, xM, Bool.not_eq_true, Bool.not_eq_false] at hq); exact ⟨hp, hp, (tail_c s ((i : Int) + 2) (by omega))⟩), (fun hp2 => (by first | exact hp2 | exact ⟨hp, hp2⟩))⟩ ?_
   refine gB (((((decide (224 ≤ ((List.getD s i 0).toNat : Int))) && (decide (((List.getD s i 0).toNat : Int) < 240))) && (tailS s ((i : Int) + 1))) && (tailS s ((i : Int) + 2)))) (fun hc6 => ?_) fun hc6 => ?_
   ·
    try simp only [xT, xF, xA, xB] at hc6
    refine gS [(6, CE.call [] [] (vc (i6 (((List.getD s ((i : Int) + 1).toNat 0).toNat : Int) - 128))) []), (12, CE.call [] [] (vc (i6 (((List.getD s ((i : Int) + 2).toNat 0).toNat : Int) - 128))) [])] [InR .i64 (((List.getD s i 0).toNat : Int) - 224), InR .i64 (4096 * (((List.getD s i 0).toNat : Int) - 224)), InR .i64 ((i : Int) + 1), Spec Tryz.prog 153 [tc (st s), tc (i6 ((i : Int) + 1))] (ofH []) (vc (i6 (((List.getD s ((i : Int) + 1).toNat 0).toNat : Int) - 128))) (ofH []), InR .i64 (64 * (((List.getD s ((i : Int) + 1).toNat 0).toNat : Int) - 128)), InR .i64 ((4096 * (((List.getD s i 0).toNat : Int) - 224)) + (64 * (((List.getD s ((i : Int) + 1).toNat 0).toNat : Int) - 128))), InR .i64 ((i : Int) + 2), Spec Tryz.prog 153 [tc (st s), tc (i6 ((i : Int) + 2))] (ofH []) (vc (i6 (((List.getD s ((i : Int) + 2).toNat 0).toNat : Int) - 128))) (ofH []), InR .i64 (((4096 * (((List.getD s i 0).toNat : Int) - 224)) + (64 * (((List.getD s ((i : Int) + 1).toNat 0).toNat : Int) - 128))) + (((List.getD s ((i : Int) + 2).toNat 0).toNat : Int) - 128))] 134 [(0, vc (st s)), (1, vc (i6 (i : Int))), (6, vc (i6 ((List.getD s i 0).toNat : Int))), (8, vc (i6 (((4096 * (((List.getD s i 0).toNat : Int) - 224)) + (64 * (((List.getD s ((i : Int) + 1).toNat 0).toNat : Int) - 128))) + (((List.getD s ((i : Int) + 2).toNat 0).toNat : Int) - 128))))] [] ⟨(inR64 (by omega) (by omega)), (inR64 (by omega) (by omega)), (inR64 (by omega) (by omega)), (low_c s ((i : Int) + 1) (by first | omega | (simp only [tail_iff, tail_neg, Bool.and_eq_true, decide_eq_true_eq] at * <;> omega))), (inR64 (by omega) (by first | omega | (simp only [tail_iff, tail_neg, e1, e2, e3] at * <;> omega))), (inR64 (by omega) (by first | omega | (simp only [tail_iff, tail_neg, e1, e2, e3] at * <;> omega))), (inR64 (by omega) (by omega)), (low_c s ((i : Int) + 2) (by first | omega | (simp only [tail_iff, tail_neg, Bool.and_eq_true, decide_eq_true_eq] at * <;> omega))), (show InR .i64 (((4096 * (((List.getD s i 0).toNat : Int) - 224)) + (64 * (((List.getD s ((i : Int) + 1).toNat 0).toNat : Int) - 128))) + (((List.getD s ((i : Int) + 2).toNat 0).toNat : Int) - 128)) from (inR64 (by omega) (by first | omega | (simp only [tail_iff, tail_neg, e1, e2, e3] at * <;> omega))))⟩ ?_
    refine gS [] [((decide (2048 ≤ ((4096 * (((List.getD s i 0).toNat : Int) - 224)) + (64 * (((List.getD s ((i : Int) + 1).toNat 0).toNat : Int) - 128))) + (((List.getD s ((i : Int) + 2).toNat 0).toNat : Int) - 128))) = true) → allP [(decide (2048 ≤ ((4096 * (((List.getD s i 0).toNat : Int) - 224)) + (64 * (((List.getD s ((i : Int) + 1).toNat 0).toNat : Int) - 128))) + (((List.getD s ((i : Int) + 2).toNat 0).toNat : Int) - 128))) = true], ((decide (2048 ≤ ((4096 * (((List.getD s i 0).toNat : Int) - 224)) + (64 * (((List.getD s ((i : Int) + 1).toNat 0).toNat : Int) - 128))) + (((List.getD s ((i : Int) + 2).toNat 0).toNat : Int) - 128))) = true) → allP [(decide (2048 ≤ ((4096 * (((List.getD s i 0).toNat : Int) - 224)) + (64 * (((List.getD s ((i : Int) + 1).toNat 0).toNat : Int) - 128))) + (((List.getD s ((i : Int) + 2).toNat 0).toNat : Int) - 128))) = true], (((decide (2048 ≤ ((4096 * (((List.getD s i 0).toNat : Int) - 224)) + (64 * (((List.getD s ((i : Int) + 1).toNat 0).toNat : Int) - 128))) + (((List.getD s ((i : Int) + 2).toNat 0).toNat : Int) - 128))) = true) ∧ (decide (((4096 * (((List.getD s i 0).toNat : Int) - 224)) + (64 * (((List.getD s ((i : Int) + 1).toNat 0).toNat : Int) - 128))) + (((List.getD s ((i : Int) + 2).toNat 0).toNat : Int) - 128) < 55296)) = false) → allP [((decide (2048 ≤ ((4096 * (((List.getD s i 0).toNat : Int) - 224)) + (64 * (((List.getD s ((i : Int) + 1).toNat 0).toNat : Int) - 128))) + (((List.getD s ((i : Int) + 2).toNat 0).toNat : Int) - 128))) = true) ∧ (decide (((4096 * (((List.getD s i 0).toNat : Int) - 224)) + (64 * (((List.getD s ((i : Int) + 1).toNat 0).toNat : Int) - 128))) + (((List.getD s ((i : Int) + 2).toNat 0).toNat : Int) - 128) < 55296)) = false], ((decide (2048 ≤ ((4096 * (((List.getD s i 0).toNat : Int) - 224)) + (64 * (((List.getD s ((i : Int) + 1).toNat 0).toNat : Int) - 128))) + (((List.getD s ((i : Int) + 2).toNat 0).toNat : Int) - 128))) = true) → allP [(decide (2048 ≤ ((4096 * (((List.getD s i 0).toNat : Int) - 224)) + (64 * (((List.getD s ((i : Int) + 1).toNat 0).toNat : Int) - 128))) + (((List.getD s ((i : Int) + 2).toNat 0).toNat : Int) - 128))) = true, (decide (((4096 * (((List.getD s i 0).toNat : Int) - 224)) + (64 * (((List.getD s ((i : Int) + 1).toNat 0).toNat : Int) - 128))) + (((List.getD s ((i : Int) + 2).toNat 0).toNat : Int) - 128) < 55296)) = false → allP [((decide (2048 ≤ ((4096 * (((List.getD s i 0).toNat : Int) - 224)) + (64 * (((List.getD s ((i : Int) + 1).toNat 0).toNat : Int) - 128))) + (((List.getD s ((i : Int) + 2).toNat 0).toNat : Int) - 128))) = true) ∧ (decide (((4096 * (((List.getD s i 0).toNat : Int) - 224)) + (64 * (((List.getD s ((i : Int) + 1).toNat 0).toNat : Int) - 128))) + (((List.getD s ((i : Int) + 2).toNat 0).toNat : Int) - 128) < 55296)) = false]], (decide (2048 ≤ ((4096 * (((List.getD s i 0).toNat : Int) - 224)) + (64 * (((List.getD s ((i : Int) + 1).toNat 0).toNat : Int) - 128))) + (((List.getD s ((i : Int) + 2).toNat 0).toNat : Int) - 128))) = true → allP [(decide (2048 ≤ ((4096 * (((List.getD s i 0).toNat : Int) - 224)) + (64 * (((List.getD s ((i : Int) + 1).toNat 0).toNat : Int) - 128))) + (((List.getD s ((i : Int) + 2).toNat 0).toNat : Int) - 128))) = true]] 134 [(0, vc (st s)), (1, vc (i6 (i : Int))), (6, vc (i6 ((List.getD s i 0).toNat : Int))), (8, vc (i6 (((4096 * (((List.getD s i 0).toNat : Int) - 224)) + (64 * (((List.getD s ((i : Int) + 1).toNat 0).toNat : Int) - 128))) + (((List.getD s ((i : Int) + 2).toNat 0).toNat : Int) - 128)))), (81, vc (bo ((decide (2048 ≤ ((4096 * (((List.getD s i 0).toNat : Int) - 224)) + (64 * (((List.getD s ((i : Int) + 1).toNat 0).toNat : Int) - 128))) + (((List.getD s ((i : Int) + 2).toNat 0).toNat : Int) - 128))) && ((decide (((4096 * (((List.getD s i 0).toNat : Int) - 224)) + (64 * (((List.getD s ((i : Int) + 1).toNat 0).toNat : Int) - 128))) + (((List.getD s ((i : Int) + 2).toNat 0).toNat : Int) - 128) < 55296)) || (decide (57343 < ((4096 * (((List.getD s i 0).toNat : Int) - 224)) + (64 * (((List.getD s ((i : Int) + 1).toNat 0).toNat : Int) - 128))) + (((List.getD s ((i : Int) + 2).toNat 0).toNat : Int) - 128)))))))] [] ⟨(fun hp => hp), (fun hp => hp), (fun hp => hp), (fun hp => by have hq := hp; (try simp only [xT, xF, xA, xO, xB, xP, xN, xM, Bool.not_eq_true, Bool.not_eq_false] at hq); exact ⟨hp, (fun hp2 => (by first | exact hp2 | exact ⟨hp, hp2⟩))⟩), (fun hp2 => (by first | exact hp2 | exact ⟨hp, hp2⟩))⟩ ?_
    refine gB (((decide (2048 ≤ ((4096 * (((List.getD s i 0).toNat : Int) - 224)) + (64 * (((List.getD s ((i : Int) + 1).toNat 0).toNat : Int) - 128))) + (((List.getD s ((i : Int) + 2).toNat 0).toNat : Int) - 128))) && ((decide (((4096 * (((List.getD s i 0).toNat : Int) - 224)) + (64 * (((List.getD s ((i : Int) + 1).toNat 0).toNat : Int) - 128))) + (((List.getD s ((i : Int) + 2).toNat 0).toNat : Int) - 128) < 55296)) || (decide (57343 < ((4096 * (((List.getD s i 0).toNat : Int) - 224)) + (64 * (((List.getD s ((i : Int) + 1).toNat 0).toNat : Int) - 128))) + (((List.getD s ((i : Int) + 2).toNat 0).toNat : Int) - 128)))))) (fun hc7 => ?_) fun hc7 => ?_
    ·
     try simp only [xT, xF, xA, xB, xO, xP] at hc7
     refine gS [] [] 134 [(4, vc (i6 (((4096 * (((List.getD s i 0).toNat : Int) - 224)) + (64 * (((List.getD s ((i : Int) + 1).toNat 0).toNat : Int) - 128))) + (((List.getD s ((i : Int) + 2).toNat 0).toNat : Int) - 128)))), (5, vc (i6 3))] [] trivial ?_
     exact gT (AV.tup [tc (i6 (((4096 * (((List.getD s i 0).toNat : Int) - 224)) + (64 * (((List.getD s ((i : Int) + 1).toNat 0).toNat : Int) - 128))) + (((List.getD s ((i : Int) + 2).toNat 0).toNat : Int) - 128))), tc (i6 3)]) (by rw [show (nextS s i) = (((4096 * (((List.getD s i 0).toNat : Int) - 224)) + (64 * (((List.getD s ((i : Int) + 1).toNat 0).toNat : Int) - 128))) + (((List.getD s ((i : Int) + 2).toNat 0).toNat : Int) - 128), 3) from by simp only [tail_iff, tail_neg, e1, e2, e3, Bool.and_eq_true, decide_eq_true_eq] at *; rw [next_3 rfl rfl rfl (by omega) (by omega) (by omega) (by omega) (by omega)] <;> exact Prod.ext (by simp only []; omega) rfl])
    ·
     try simp only [xT, xF, xA, xB, xO, xP] at hc7
     refine AMx.skip ?_
     refine gQ ?_
     refine gS [(10, CE.call [] [] (vc (bo (tailS s ((i : Int) + 1)))) []), (16, CE.call [] [] (vc (bo (tailS s ((i : Int) + 2)))) []), (22, CE.call [] [] (vc (bo (tailS s ((i : Int) + 3)))) [])] [((decide (240 ≤ ((List.getD s i 0).toNat : Int))) = true) → allP [(decide (240 ≤ ((List.getD s i 0).toNat : Int))) = true], (decide (240 ≤ ((List.getD s i 0).toNat : Int))) = true → allP [(decide (240 ≤ ((List.getD s i 0).toNat : Int))) = true], (((decide (240 ≤ ((List.getD s i 0).toNat : Int))) && (decide (((List.getD s i 0).toNat : Int) < 248))) = true) → allP [((decide (240 ≤ ((List.getD s i 0).toNat : Int))) && (decide (((List.getD s i 0).toNat : Int) < 248))) = true, InR .i64 ((i : Int) + 1)], (((decide (240 ≤ ((List.getD s i 0).toNat : Int))) && (decide (((List.getD s i 0).toNat : Int) < 248))) = true) → allP [((decide (240 ≤ ((List.getD s i 0).toNat : Int))) && (decide (((List.getD s i 0).toNat : Int) < 248))) = true, ((decide (240 ≤ ((List.getD s i 0).toNat : Int))) && (decide (((List.getD s i 0).toNat : Int) < 248))) = true, Spec Tryz.prog 152 [tc (st s), tc (i6 ((i : Int) + 1))] (ofH []) (vc (bo (tailS s ((i : Int) + 1)))) (ofH [])], ((decide (240 ≤ ((List.getD s i 0).toNat : Int))) && (decide (((List.getD s i 0).toNat : Int) < 248))) = true → allP [((decide (240 ≤ ((List.getD s i 0).toNat : Int))) && (decide (((List.getD s i 0).toNat : Int) < 248))) = true], ((((decide (240 ≤ ((List.getD s i 0).toNat : Int))) && (decide (((List.getD s i 0).toNat : Int) < 248))) && (tailS s ((i : Int) + 1))) = true) → allP [(((decide (240 ≤ ((List.getD s i 0).toNat : Int))) && (decide (((List.getD s i 0).toNat : Int) < 248))) && (tailS s ((i : Int) + 1))) = true, InR .i64 ((i : Int) + 2)], ((((decide (240 ≤ ((List.getD s i 0).toNat : Int))) && (decide (((List.getD s i 0).toNat : Int) < 248))) && (tailS s ((i : Int) + 1))) = true) → allP [(((decide (240 ≤ ((List.getD s i 0).toNat : Int))) && (decide (((List.getD s i 0).toNat : Int) < 248))) && (tailS s ((i : Int) + 1))) = true, (((decide (240 ≤ ((List.getD s i 0).toNat : Int))) && (decide (((List.getD s i 0).toNat : Int) < 248))) && (tailS s ((i : Int) + 1))) = true, Spec Tryz.prog 152 [tc (st s), tc (i6 ((i : Int) + 2))] (ofH []) (vc (bo (tailS s ((i : Int) + 2)))) (ofH [])], (((decide (240 ≤ ((List.getD s i 0).toNat : Int))) && (decide (((List.getD s i 0).toNat : Int) < 248))) && (tailS s ((i : Int) + 1))) = true → allP [(((decide (240 ≤ ((List.getD s i 0).toNat : Int))) && (decide (((List.getD s i 0).toNat : Int) < 248))) && (tailS s ((i : Int) + 1))) = true], (((((decide (240 ≤ ((List.getD s i 0).toNat : Int))) && (decide (((List.getD s i 0).toNat : Int) < 248))) && (tailS s ((i : Int) + 1))) && (tailS s ((i : Int) + 2))) = true) → allP [((((decide (240 ≤ ((List.getD s i 0).toNat : Int))) && (decide (((List.getD s i 0).toNat : Int) < 248))) && (tailS s ((i : Int) + 1))) && (tailS s ((i : Int) + 2))) = true, InR .i64 ((i : Int) + 3)], (((((decide (240 ≤ ((List.getD s i 0).toNat : Int))) && (decide (((List.getD s i 0).toNat : Int) < 248))) && (tailS s ((i : Int) + 1))) && (tailS s ((i : Int) + 2))) = true) → allP [((((decide (240 ≤ ((List.getD s i 0).toNat : Int))) && (decide (((List.getD s i 0).toNat : Int) < 248))) && (tailS s ((i : Int) + 1))) && (tailS s ((i : Int) + 2))) = true, ((((decide (240 ≤ ((List.getD s i 0).toNat : Int))) && (decide (((List.getD s i 0).toNat : Int) < 248))) && (tailS s ((i : Int) + 1))) && (tailS s ((i : Int) + 2))) = true, Spec Tryz.prog 152 [tc (st s), tc (i6 ((i : Int) + 3))] (ofH []) (vc (bo (tailS s ((i : Int) + 3)))) (ofH [])], ((((decide (240 ≤ ((List.getD s i 0).toNat : Int))) && (decide (((List.getD s i 0).toNat : Int) < 248))) && (tailS s ((i : Int) + 1))) && (tailS s ((i : Int) + 2))) = true → allP [((((decide (240 ≤ ((List.getD s i 0).toNat : Int))) && (decide (((List.getD s i 0).toNat : Int) < 248))) && (tailS s ((i : Int) + 1))) && (tailS s ((i : Int) + 2))) = true]] 134 [(0, vc (st s)), (1, vc (i6 (i : Int))), (6, vc (i6 ((List.getD s i 0).toNat : Int))), (106, vc (bo (((((decide (240 ≤ ((List.getD s i 0).toNat : Int))) && (decide (((List.getD s i 0).toNat : Int) < 248))) && (tailS s ((i : Int) + 1))) && (tailS s ((i : Int) + 2))) && (tailS s ((i : Int) + 3)))))] [] ⟨(fun hp => hp), (fun hp2 => (by first | exact hp2 | exact ⟨hp, hp2⟩)), (fun hp => by have hq := hp; (try simp only [xT, xF, xA, xO, xB, xP, xN, xM, Bool.not_eq_true, Bool.not_eq_false] at hq); exact ⟨hp, (show InR .i64 ((i : Int) + 1) from (inR64 (by omega) (by omega)))⟩), (fun hp => by have hq := hp; (try simp only [xT, xF, xA, xO, xB, xP, xN, xM, Bool.not_eq_true, Bool.not_eq_false] at hq); exact ⟨hp, hp, (tail_c s ((i : Int) + 1) (by omega))⟩), (fun hp2 => (by first | exact hp2 | exact ⟨hp, hp2⟩)), (fun hp => by have hq := hp; (try simp only [xT, xF, xA, xO, xB, xP, xN, xM, Bool.not_eq_true, Bool.not_eq_false] at hq); exact ⟨hp, (show InR .i64 ((i : Int) + 2) from (inR64 (by omega) (by omega)))⟩), (fun hp => by have hq := hp; (try simp only [xT, xF, xA, xO, xB, xP, xN, xM, Bool.not_eq_true, Bool.not_eq_false] at hq); exact ⟨hp, hp, (tail_c s ((i : Int) + 2) (by omega))⟩), (fun hp2 => (by first | exact hp2 | exact ⟨hp, hp2⟩)), (fun hp => by have hq := hp; (try simp only [xT, xF, xA, xO, xB, xP, xN, xM, Bool.not_eq_true, Bool.not_eq_false] at hq); exact ⟨hp, (show InR .i64 ((i : Int) + 3) from (inR64 (by omega) (by omega)))⟩), (fun hp => by have hq := hp; (try simp only [xT, xF, xA, xO, xB, xP, xN, xM, Bool.not_eq_true, Bool.not_eq_false] at hq); exact ⟨hp, hp, (tail_c s ((i : Int) + 3) (by omega))⟩), (fun hp2 => (by first | exact hp2 | exact ⟨hp, hp2⟩))⟩ ?_
     refine gB ((((((decide (240 ≤ ((List.getD s i 0).toNat : Int))) && (decide (((List.getD s i 0).toNat : Int) < 248))) && (tailS s ((i : Int) + 1))) && (tailS s ((i : Int) + 2))) && (tailS s ((i : Int) + 3)))) (fun hc8 => ?_) fun hc8 => ?_
     ·
      try simp only [xT, xF, xA, xB] at hc8
      exfalso; first | omega | (simp only [tail_iff, tail_neg, e1, e2, e3] at * <;> omega)
     ·
      try simp only [xT, xF, xA, xB] at hc8
      refine AMx.skip ?_
      refine gS [] [] 134 [(4, vc (i6 (-1))), (5, vc (i6 1))] [] trivial ?_
      exact gT (AV.tup [tc (i6 (-1)), tc (i6 1)]) (by rw [show (nextS s i) = ((-1), 1) from by simp only [tail_iff, tail_neg, e1, e2, e3, Bool.and_eq_true, decide_eq_true_eq] at *; exact next_bad hi rfl rfl rfl rfl b0 b1 b2 b3 (by omega) (by omega) (by omega) (by omega)])
   ·
    try simp only [xT, xF, xA, xB] at hc6
    refine AMx.skip ?_
    refine gQ ?_
    refine gS [(10, CE.call [] [] (vc (bo (tailS s ((i : Int) + 1)))) []), (16, CE.call [] [] (vc (bo (tailS s ((i : Int) + 2)))) []), (22, CE.call [] [] (vc (bo (tailS s ((i : Int) + 3)))) [])] [((decide (240 ≤ ((List.getD s i 0).toNat : Int))) = true) → allP [(decide (240 ≤ ((List.getD s i 0).toNat : Int))) = true], (decide (240 ≤ ((List.getD s i 0).toNat : Int))) = true → allP [(decide (240 ≤ ((List.getD s i 0).toNat : Int))) = true], (((decide (240 ≤ ((List.getD s i 0).toNat : Int))) && (decide (((List.getD s i 0).toNat : Int) < 248))) = true) → allP [((decide (240 ≤ ((List.getD s i 0).toNat : Int))) && (decide (((List.getD s i 0).toNat : Int) < 248))) = true, InR .i64 ((i : Int) + 1)], (((decide (240 ≤ ((List.getD s i 0).toNat : Int))) && (decide (((List.getD s i 0).toNat : Int) < 248))) = true) → allP [((decide (240 ≤ ((List.getD s i 0).toNat : Int))) && (decide (((List.getD s i 0).toNat : Int) < 248))) = true, ((decide (240 ≤ ((List.getD s i 0).toNat : Int))) && (decide (((List.getD s i 0).toNat : Int) < 248))) = true, Spec Tryz.prog 152 [tc (st s), tc (i6 ((i : Int) + 1))] (ofH []) (vc (bo (tailS s ((i : Int) + 1)))) (ofH [])], ((decide (240 ≤ ((List.getD s i 0).toNat : Int))) && (decide (((List.getD s i 0).toNat : Int) < 248))) = true → allP [((decide (240 ≤ ((List.getD s i 0).toNat : Int))) && (decide (((List.getD s i 0).toNat : Int) < 248))) = true], ((((decide (240 ≤ ((List.getD s i 0).toNat : Int))) && (decide (((List.getD s i 0).toNat : Int) < 248))) && (tailS s ((i : Int) + 1))) = true) → allP [(((decide (240 ≤ ((List.getD s i 0).toNat : Int))) && (decide (((List.getD s i 0).toNat : Int) < 248))) && (tailS s ((i : Int) + 1))) = true, InR .i64 ((i : Int) + 2)], ((((decide (240 ≤ ((List.getD s i 0).toNat : Int))) && (decide (((List.getD s i 0).toNat : Int) < 248))) && (tailS s ((i : Int) + 1))) = true) → allP [(((decide (240 ≤ ((List.getD s i 0).toNat : Int))) && (decide (((List.getD s i 0).toNat : Int) < 248))) && (tailS s ((i : Int) + 1))) = true, (((decide (240 ≤ ((List.getD s i 0).toNat : Int))) && (decide (((List.getD s i 0).toNat : Int) < 248))) && (tailS s ((i : Int) + 1))) = true, Spec Tryz.prog 152 [tc (st s), tc (i6 ((i : Int) + 2))] (ofH []) (vc (bo (tailS s ((i : Int) + 2)))) (ofH [])], (((decide (240 ≤ ((List.getD s i 0).toNat : Int))) && (decide (((List.getD s i 0).toNat : Int) < 248))) && (tailS s ((i : Int) + 1))) = true → allP [(((decide (240 ≤ ((List.getD s i 0).toNat : Int))) && (decide (((List.getD s i 0).toNat : Int) < 248))) && (tailS s ((i : Int) + 1))) = true], (((((decide (240 ≤ ((List.getD s i 0).toNat : Int))) && (decide (((List.getD s i 0).toNat : Int) < 248))) && (tailS s ((i : Int) + 1))) && (tailS s ((i : Int) + 2))) = true) → allP [((((decide (240 ≤ ((List.getD s i 0).toNat : Int))) && (decide (((List.getD s i 0).toNat : Int) < 248))) && (tailS s ((i : Int) + 1))) && (tailS s ((i : Int) + 2))) = true, InR .i64 ((i : Int) + 3)], (((((decide (240 ≤ ((List.getD s i 0).toNat : Int))) && (decide (((List.getD s i 0).toNat : Int) < 248))) && (tailS s ((i : Int) + 1))) && (tailS s ((i : Int) + 2))) = true) → allP [((((decide (240 ≤ ((List.getD s i 0).toNat : Int))) && (decide (((List.getD s i 0).toNat : Int) < 248))) && (tailS s ((i : Int) + 1))) && (tailS s ((i : Int) + 2))) = true, ((((decide (240 ≤ ((List.getD s i 0).toNat : Int))) && (decide (((List.getD s i 0).toNat : Int) < 248))) && (tailS s ((i : Int) + 1))) && (tailS s ((i : Int) + 2))) = true, Spec Tryz.prog 152 [tc (st s), tc (i6 ((i : Int) + 3))] (ofH []) (vc (bo (tailS s ((i : Int) + 3)))) (ofH [])], ((((decide (240 ≤ ((List.getD s i 0).toNat : Int))) && (decide (((List.getD s i 0).toNat : Int) < 248))) && (tailS s ((i : Int) + 1))) && (tailS s ((i : Int) + 2))) = true → allP [((((decide (240 ≤ ((List.getD s i 0).toNat : Int))) && (decide (((List.getD s i 0).toNat : Int) < 248))) && (tailS s ((i : Int) + 1))) && (tailS s ((i : Int) + 2))) = true]] 134 [(0, vc (st s)), (1, vc (i6 (i : Int))), (6, vc (i6 ((List.getD s i 0).toNat : Int))), (106, vc (bo (((((decide (240 ≤ ((List.getD s i 0).toNat : Int))) && (decide (((List.getD s i 0).toNat : Int) < 248))) && (tailS s ((i : Int) + 1))) && (tailS s ((i : Int) + 2))) && (tailS s ((i : Int) + 3)))))] [] ⟨(fun hp => hp), (fun hp2 => (by first | exact hp2 | exact ⟨hp, hp2⟩)), (fun hp => by have hq := hp; (try simp only [xT, xF, xA, xO, xB, xP, xN, xM, Bool.not_eq_true, Bool.not_eq_false] at hq); exact ⟨hp, (show InR .i64 ((i : Int) + 1) from (inR64 (by omega) (by omega)))⟩), (fun hp => by have hq := hp; (try simp only [xT, xF, xA, xO, xB, xP, xN, xM, Bool.not_eq_true, Bool.not_eq_false] at hq); exact ⟨hp, hp, (tail_c s ((i : Int) + 1) (by omega))⟩), (fun hp2 => (by first | exact hp2 | exact ⟨hp, hp2⟩)), (fun hp => by have hq := hp; (try simp only [xT, xF, xA, xO, xB, xP, xN, xM, Bool.not_eq_true, Bool.not_eq_false] at hq); exact ⟨hp, (show InR .i64 ((i : Int) + 2) from (inR64 (by omega) (by omega)))⟩), (fun hp => by have hq := hp; (try simp only [xT, xF, xA, xO, xB, xP, xN, xM, Bool.not_eq_true, Bool.not_eq_false] at hq); exact ⟨hp, hp, (tail_c s ((i : Int) + 2) (by omega))⟩), (fun hp2 => (by first | exact hp2 | exact ⟨hp, hp2⟩)), (fun hp => by have hq := hp; (try simp only [xT, xF, xA, xO, xB, xP, xN, xM, Bool.not_eq_true, Bool.not_eq_false] at hq); exact ⟨hp, (show InR .i64 ((i : Int) + 3) from (inR64 (by omega) (by omega)))⟩), (fun hp => by have hq := hp; (try simp only [xT, xF, xA, xO, xB, xP, xN, xM, Bool.not_eq_true, Bool.not_eq_false] at hq); exact ⟨hp, hp, (tail_c s ((i : Int) + 3) (by omega))⟩), (fun hp2 => (by first | exact hp2 | exact ⟨hp, hp2⟩))⟩ ?_
    refine gB ((((((decide (240 ≤ ((List.getD s i 0).toNat : Int))) && (decide (((List.getD s i 0).toNat : Int) < 248))) && (tailS s ((i : Int) + 1))) && (tailS s ((i : Int) + 2))) && (tailS s ((i : Int) + 3)))) (fun hc9 => ?_) fun hc9 => ?_
    ·
     try simp only [xT, xF, xA, xB] at hc9
     refine gS [(6, CE.call [] [] (vc (i6 (((List.getD s ((i : Int) + 1).toNat 0).toNat : Int) - 128))) []), (12, CE.call [] [] (vc (i6 (((List.getD s ((i : Int) + 2).toNat 0).toNat : Int) - 128))) []), (18, CE.call [] [] (vc (i6 (((List.getD s ((i : Int) + 3).toNat 0).toNat : Int) - 128))) [])] [InR .i64 (((List.getD s i 0).toNat : Int) - 240), InR .i64 (262144 * (((List.getD s i 0).toNat : Int) - 240)), InR .i64 ((i : Int) + 1), Spec Tryz.prog 153 [tc (st s), tc (i6 ((i : Int) + 1))] (ofH []) (vc (i6 (((List.getD s ((i : Int) + 1).toNat 0).toNat : Int) - 128))) (ofH []), InR .i64 (4096 * (((List.getD s ((i : Int) + 1).toNat 0).toNat : Int) - 128)), InR .i64 ((262144 * (((List.getD s i 0).toNat : Int) - 240)) + (4096 * (((List.getD s ((i : Int) + 1).toNat 0).toNat : Int) - 128))), InR .i64 ((i : Int) + 2), Spec Tryz.prog 153 [tc (st s), tc (i6 ((i : Int) + 2))] (ofH []) (vc (i6 (((List.getD s ((i : Int) + 2).toNat 0).toNat : Int) - 128))) (ofH []), InR .i64 (64 * (((List.getD s ((i : Int) + 2).toNat 0).toNat : Int) - 128)), InR .i64 (((262144 * (((List.getD s i 0).toNat : Int) - 240)) + (4096 * (((List.getD s ((i : Int) + 1).toNat 0).toNat : Int) - 128))) + (64 * (((List.getD s ((i : Int) + 2).toNat 0).toNat : Int) - 128))), InR .i64 ((i : Int) + 3), Spec Tryz.prog 153 [tc (st s), tc (i6 ((i : Int) + 3))] (ofH []) (vc (i6 (((List.getD s ((i : Int) + 3).toNat 0).toNat : Int) - 128))) (ofH []), InR .i64 ((((262144 * (((List.getD s i 0).toNat : Int) - 240)) + (4096 * (((List.getD s ((i : Int) + 1).toNat 0).toNat : Int) - 128))) + (64 * (((List.getD s ((i : Int) + 2).toNat 0).toNat : Int) - 128))) + (((List.getD s ((i : Int) + 3).toNat 0).toNat : Int) - 128))] 134 [(9, vc (i6 ((((262144 * (((List.getD s i 0).toNat : Int) - 240)) + (4096 * (((List.getD s ((i : Int) + 1).toNat 0).toNat : Int) - 128))) + (64 * (((List.getD s ((i : Int) + 2).toNat 0).toNat : Int) - 128))) + (((List.getD s ((i : Int) + 3).toNat 0).toNat : Int) - 128))))] [] ⟨(inR64 (by omega) (by omega)), (inR64 (by omega) (by omega)), (inR64 (by omega) (by omega)), (low_c s ((i : Int) + 1) (by first | omega | (simp only [tail_iff, tail_neg, Bool.and_eq_true, decide_eq_true_eq] at * <;> omega))), (inR64 (by omega) (by first | omega | (simp only [tail_iff, tail_neg, e1, e2, e3] at * <;> omega))), (inR64 (by omega) (by first | omega | (simp only [tail_iff, tail_neg, e1, e2, e3] at * <;> omega))), (inR64 (by omega) (by omega)), (low_c s ((i : Int) + 2) (by first | omega | (simp only [tail_iff, tail_neg, Bool.and_eq_true, decide_eq_true_eq] at * <;> omega))), (inR64 (by omega) (by first | omega | (simp only [tail_iff, tail_neg, e1, e2, e3] at * <;> omega))), (inR64 (by omega) (by first | omega | (simp only [tail_iff, tail_neg, e1, e2, e3] at * <;> omega))), (inR64 (by omega) (by omega)), (low_c s ((i : Int) + 3) (by first | omega | (simp only [tail_iff, tail_neg, Bool.and_eq_true, decide_eq_true_eq] at * <;> omega))), (show InR .i64 ((((262144 * (((List.getD s i 0).toNat : Int) - 240)) + (4096 * (((List.getD s ((i : Int) + 1).toNat 0).toNat : Int) - 128))) + (64 * (((List.getD s ((i : Int) + 2).toNat 0).toNat : Int) - 128))) + (((List.getD s ((i : Int) + 3).toNat 0).toNat : Int) - 128)) from (inR64 (by omega) (by first | omega | (simp only [tail_iff, tail_neg, e1, e2, e3] at * <;> omega))))⟩ ?_
     refine gS [] [((decide (65536 ≤ (((262144 * (((List.getD s i 0).toNat : Int) - 240)) + (4096 * (((List.getD s ((i : Int) + 1).toNat 0).toNat : Int) - 128))) + (64 * (((List.getD s ((i : Int) + 2).toNat 0).toNat : Int) - 128))) + (((List.getD s ((i : Int) + 3).toNat 0).toNat : Int) - 128))) = true) → allP [(decide (65536 ≤ (((262144 * (((List.getD s i 0).toNat : Int) - 240)) + (4096 * (((List.getD s ((i : Int) + 1).toNat 0).toNat : Int) - 128))) + (64 * (((List.getD s ((i : Int) + 2).toNat 0).toNat : Int) - 128))) + (((List.getD s ((i : Int) + 3).toNat 0).toNat : Int) - 128))) = true], (decide (65536 ≤ (((262144 * (((List.getD s i 0).toNat : Int) - 240)) + (4096 * (((List.getD s ((i : Int) + 1).toNat 0).toNat : Int) - 128))) + (64 * (((List.getD s ((i : Int) + 2).toNat 0).toNat : Int) - 128))) + (((List.getD s ((i : Int) + 3).toNat 0).toNat : Int) - 128))) = true → allP [(decide (65536 ≤ (((262144 * (((List.getD s i 0).toNat : Int) - 240)) + (4096 * (((List.getD s ((i : Int) + 1).toNat 0).toNat : Int) - 128))) + (64 * (((List.getD s ((i : Int) + 2).toNat 0).toNat : Int) - 128))) + (((List.getD s ((i : Int) + 3).toNat 0).toNat : Int) - 128))) = true]] 134 [(9, vc (i6 ((((262144 * (((List.getD s i 0).toNat : Int) - 240)) + (4096 * (((List.getD s ((i : Int) + 1).toNat 0).toNat : Int) - 128))) + (64 * (((List.getD s ((i : Int) + 2).toNat 0).toNat : Int) - 128))) + (((List.getD s ((i : Int) + 3).toNat 0).toNat : Int) - 128)))), (132, vc (bo ((decide (65536 ≤ (((262144 * (((List.getD s i 0).toNat : Int) - 240)) + (4096 * (((List.getD s ((i : Int) + 1).toNat 0).toNat : Int) - 128))) + (64 * (((List.getD s ((i : Int) + 2).toNat 0).toNat : Int) - 128))) + (((List.getD s ((i : Int) + 3).toNat 0).toNat : Int) - 128))) && (decide ((((262144 * (((List.getD s i 0).toNat : Int) - 240)) + (4096 * (((List.getD s ((i : Int) + 1).toNat 0).toNat : Int) - 128))) + (64 * (((List.getD s ((i : Int) + 2).toNat 0).toNat : Int) - 128))) + (((List.getD s ((i : Int) + 3).toNat 0).toNat : Int) - 128) ≤ 1114111)))))] [] ⟨(fun hp => hp), (fun hp2 => (by first | exact hp2 | exact ⟨hp, hp2⟩))⟩ ?_
     refine gB (((decide (65536 ≤ (((262144 * (((List.getD s i 0).toNat : Int) - 240)) + (4096 * (((List.getD s ((i : Int) + 1).toNat 0).toNat : Int) - 128))) + (64 * (((List.getD s ((i : Int) + 2).toNat 0).toNat : Int) - 128))) + (((List.getD s ((i : Int) + 3).toNat 0).toNat : Int) - 128))) && (decide ((((262144 * (((List.getD s i 0).toNat : Int) - 240)) + (4096 * (((List.getD s ((i : Int) + 1).toNat 0).toNat : Int) - 128))) + (64 * (((List.getD s ((i : Int) + 2).toNat 0).toNat : Int) - 128))) + (((List.getD s ((i : Int) + 3).toNat 0).toNat : Int) - 128) ≤ 1114111)))) (fun hc10 => ?_) fun hc10 => ?_
     ·
      try simp only [xT, xF, xA, xB] at hc10
      refine gS [] [] 134 [(4, vc (i6 ((((262144 * (((List.getD s i 0).toNat : Int) - 240)) + (4096 * (((List.getD s ((i : Int) + 1).toNat 0).toNat : Int) - 128))) + (64 * (((List.getD s ((i : Int) + 2).toNat 0).toNat : Int) - 128))) + (((List.getD s ((i : Int) + 3).toNat 0).toNat : Int) - 128)))), (5, vc (i6 4))] [] trivial ?_
      exact gT (AV.tup [tc (i6 ((((262144 * (((List.getD s i 0).toNat : Int) - 240)) + (4096 * (((List.getD s ((i : Int) + 1).toNat 0).toNat : Int) - 128))) + (64 * (((List.getD s ((i : Int) + 2).toNat 0).toNat : Int) - 128))) + (((List.getD s ((i : Int) + 3).toNat 0).toNat : Int) - 128))), tc (i6 4)]) (by rw [show (nextS s i) = ((((262144 * (((List.getD s i 0).toNat : Int) - 240)) + (4096 * (((List.getD s ((i : Int) + 1).toNat 0).toNat : Int) - 128))) + (64 * (((List.getD s ((i : Int) + 2).toNat 0).toNat : Int) - 128))) + (((List.getD s ((i : Int) + 3).toNat 0).toNat : Int) - 128), 4) from by simp only [tail_iff, tail_neg, e1, e2, e3, Bool.and_eq_true, decide_eq_true_eq] at *; rw [next_4 rfl rfl rfl rfl (by omega) (by omega) (by omega) (by omega) (by omega) (by omega)] <;> exact Prod.ext (by simp only []; omega) rfl])
     ·
      try simp only [xT, xF, xA, xB] at hc10
      refine AMx.skip ?_
      refine gS [] [] 134 [(4, vc (i6 (-1))), (5, vc (i6 1))] [] trivial ?_
      exact gT (AV.tup [tc (i6 (-1)), tc (i6 1)]) (by rw [show (nextS s i) = ((-1), 1) from by simp only [tail_iff, tail_neg, e1, e2, e3, Bool.and_eq_true, decide_eq_true_eq] at *; exact next_bad hi rfl rfl rfl rfl b0 b1 b2 b3 (by omega) (by omega) (by omega) (by omega)])
    ·
     try simp only [xT, xF, xA, xB] at hc9
     refine AMx.skip ?_
     refine gS [] [] 134 [(4, vc (i6 (-1))), (5, vc (i6 1))] [] trivial ?_
     exact gT (AV.tup [tc (i6 (-1)), tc (i6 1)]) (by rw [show (nextS s i) = ((-1), 1) from by simp only [tail_iff, tail_neg, e1, e2, e3, Bool.and_eq_true, decide_eq_true_eq] at *; exact next_bad hi rfl rfl rfl rfl b0 b1 b2 b3 (by omega) (by omega) (by omega) (by omega)])
end AL.Route
