/- The proof library and the contracts that the law reaches: joined by a program. No condition. -/
import Derived.Test.YtlgmdlckjinfcaaGreatDoorALd
import Derived.Deep.Slices
import Derived.WalkKit
import Derived.ProofKit
import Derived.OpenShut
import Derived.ShutString
import Derived.ChangeOld
import Derived.Below
import Derived.Carry
import Derived.Test.YtlgmdlckjinfcaaGreatDoorRows
import Derived.Sort.Grow
import Derived.Test.YtlgmdlckjinfcaaGreatDoorALc
import Derived.Lib.MapLaws
import Derived.Lib.Bytealg
import Derived.Sort.Walk0
import Derived.Lib.SlicesCompact
import Derived.Lib.Strings
import Derived.Shelf.Strings.Builder1
import Derived.Shelf.Strings.Builder2
import Derived.Shelf.Strings.OnBuilder
import Derived.Shelf.Small.Bits
import Derived.Shelf.Small.Wraps
import Derived.Shelf.Strings.BuilderF
import Derived.Shelf.Strings.BuilderK
import Derived.Shelf.Strings.BuilderRune
import Derived.Shelf.Utf8.RuneCount
import Derived.Shelf.Strconv.Itoa0
import Derived.Shelf.Strings.Search1
import Derived.Shelf.Strings.Search2
import Derived.Shelf.Strings.Search3
import Derived.Shelf.Strings.Cut
import Derived.Shelf.Strings.Count
import Derived.Shelf.LaysM
import Derived.Shelf.Strings.Shaped
import Derived.Shelf.Sort.Plain
import Derived.Shelf.Strings.Prefix
import Derived.Shelf.Strings.Split
import Derived.Shelf.Strings.SplitShaped
import Derived.Shelf.Unicode.Decode
import Derived.Shelf.Strings.RuneCount
import Derived.Shelf.Strings.Explode
import Derived.Shelf.Unicode.DecodeSlow
import Derived.Shelf.Unicode.DecodeAny
import Derived.Shelf.Slices.Turned
import Derived.Shelf.Slices.In.SortNone
import Derived.Test.YtlgmdlckjinfcaaGreatDoorProg
import Derived.Lib.OthersKept
import Derived.Lib.RuneBytes
import Derived.BigCall
import Derived.JoinedOf
import Derived.SizedLaws
import Derived.Lib.LaidU8
import Derived.LaidMore
import Derived.SevenTiedAt
import Derived.Lay
import Derived.Test.YtlgmdlckjinfcaaGreatDoorCards
import Derived.Test.YtlgmdlckjinfcaaGreatDoorTie
namespace AL
open Go Go.RowKit
set_option linter.unusedVariables false
set_option linter.unusedSimpArgs false
abbrev Iw (w : World) (b : Nat) : Prop := b < w.heap.size
def Reads (P : Program) (t : TypeId) (α : Type) (row : α → Nat → SC) : Prop :=
  ∀ {H : Type} {enc : TypeId × Value → H} {w : World} {spare : Nat → Bool} {held : Bool} {fuel : Nat} {cs : List Value} {x : DataW H × List MemPlace},
    DataW.trod enc P w 0 spare held fuel t cs = some x → ∃ a : α, cs.length = P.cellsOf t ∧ ∀ (i : Nat) (v : Value), cs[i]? = some v → MS (Iw w) w (row a i) v
theorem InR_of_wf {k : IntKind} {n : Int} (h : (Lit.int k n).wf = true) : InR k n := by
  simpa [Lit.wf, InR] using h
theorem one_cell {cs : List Value} {u : Value} {p : Value → Prop} (h : cs = [u]) (hp : p u) : ∀ (i : Nat) (v : Value), cs[i]? = some v → p v := by
  intro i v hi
  subst h
  cases i with
  | zero => simp at hi; subst hi; exact hp
  | succ i => simp at hi
theorem Reads.int {P : Program} {t : TypeId} {k : IntKind} (ht : P.underlying t = some (.int k)) (hc : P.cellsOf t = 1) : Reads P t Int (fun n _ => .int k n) := by
  intro H enc w spare held fuel cs x h
  obtain ⟨n, rfl, _, hw⟩ := DataW.trod_int ht h
  exact ⟨n, by rw [hc]; rfl, one_cell rfl ⟨rfl, InR_of_wf hw⟩⟩
theorem Reads.bool {P : Program} {t : TypeId} (ht : P.underlying t = some .bool) (hc : P.cellsOf t = 1) : Reads P t Bool (fun b _ => .bool b) := by
  intro H enc w spare held fuel cs x h
  obtain ⟨n, rfl, _⟩ := DataW.trod_bool ht h
  exact ⟨n, by rw [hc]; rfl, one_cell rfl rfl⟩
theorem ba_bytes (s : ByteArray) : ba s.data.toList = s := by
  cases s; rfl
theorem Reads.str {P : Program} {t : TypeId} (ht : P.underlying t = some .string) (hc : P.cellsOf t = 1) : Reads P t Bytes (fun b _ => .str b) := by
  intro H enc w spare held fuel cs x h
  obtain ⟨s, rfl, _, hs⟩ := DataW.trod_string ht h
  exact ⟨s.data.toList, by rw [hc]; rfl, one_cell rfl ⟨by rw [ba_bytes], by simpa using hs⟩⟩
theorem cell_lt {w : World} {a : Addr} {v : Value} (h : w.cell? a = some v) : a.block < w.heap.size := by
  unfold World.cell? at h
  split at h
  · rename_i e
    exact (Array.getElem?_eq_some_iff.1 e).1
  · cases h
theorem Reads.slice {P : Program} {t e : TypeId} {α : Type} {row : α → Nat → SC} (d : α) (hr : Reads P e α row) (ht : P.underlying t = some (.slice e)) (hc : P.cellsOf t = 1) {k : Nat} (hk : P.cellsOf e = k) (h0 : 0 < k) :
    Reads P t (List α) (fun l _ => .sl k α d row l) := by
  intro H enc w spare held fuel cs x h
  rcases Go.Deep.open_slice ht h with ⟨rfl, _⟩ | ⟨a, len, cap, m, n, D, Pl, rfl, _, hl, hm, hmm, _, hx⟩
  · refine ⟨[], by rw [hc]; rfl, one_cell rfl ⟨none, 0, rfl, Nat.le_refl _, Nat.zero_le _, .inl ⟨rfl, fun _ => rfl⟩⟩⟩
  · have hlm : len ≤ m := by rw [hmm]; split <;> omega
    have hel : ∀ i, i < len → ∃ y : α, ∀ j, j < k → ∃ u, w.cell? ((a.add (i * k)).add j) = some u ∧ MS (Iw w) w (row y j) u := by
      intro i hi
      obtain ⟨cs', h1, h2⟩ := hx i (by omega)
      rw [hk] at h1
      obtain ⟨_, g2, g3⟩ := World.cells?_some h1
      obtain ⟨y, q1, q2⟩ := hr h2
      refine ⟨y, fun j hj => ?_⟩
      have : cs'[j]? = some cs'[j] := List.getElem?_eq_getElem (by omega)
      exact ⟨_, by rw [g3 j hj]; exact this, q2 j _ this⟩
    let f : Nat → α := fun i => if h : i < len then Classical.choose (hel i h) else d
    have hf : ∀ i, i < len → ∀ j, j < k → ∃ u, w.cell? ((a.add (i * k)).add j) = some u ∧ MS (Iw w) w (row (f i) j) u := by
      intro i hi
      have := Classical.choose_spec (hel i hi)
      simp only [f, dif_pos hi]
      exact this
    refine ⟨(List.range len).map f, by rw [hc]; rfl, one_cell rfl ?_⟩
    refine ⟨some a, cap, by simp, by simpa using hl, hm, ?_⟩
    by_cases hl0 : len = 0
    · subst hl0; exact .inl ⟨rfl, fun h => by cases h⟩
    · right
      obtain ⟨u, hu, _⟩ := hf 0 (by omega) 0 h0
      have hu0 : w.cell? a = some u := by simpa [Addr.add] using hu
      obtain ⟨b, off, spot⟩ := a
      have hspot : spot = none := World.cell?_spot hu0
      subst hspot
      refine ⟨b, off, rfl, cell_lt hu0, fun j x hx i hi => ?_⟩
      have hj : j < len := by
        have := (List.getElem?_eq_some_iff.1 hx).1
        simpa using this
      rw [List.getElem?_map, List.getElem?_range hj] at hx
      simp only [Option.map_some, Option.some.injEq] at hx
      subst hx
      obtain ⟨u', h1, h2⟩ := hf j hj i hi
      rw [add_mk, add_mk] at h1
      exact ⟨u', h1, h2⟩
def ReadsF (P : Program) (fl : List Field) (off : Nat) (α : Type) (row : α → Nat → SC) (n : Nat) : Prop :=
  ∀ {H : Type} {enc : TypeId × Value → H} {w : World} {spare : Nat → Bool} {held : Bool} {fuel : Nat} {cs : List Value}, (∀ f ∈ fl, ∃ x, DataW.trod enc P w 0 spare held fuel f.type ((cs.drop f.offset).take (P.cellsOf f.type)) = some x) →
    ∃ a : α, ∀ (i : Nat) (v : Value), i < n → cs[off + i]? = some v → MS (Iw w) w (row a i) v
theorem ReadsF.nil {P : Program} {off : Nat} : ReadsF P [] off Unit (fun _ _ => .any) 0 := by
  intro H enc w spare held fuel cs h
  exact ⟨(), fun i v hi => by omega⟩
theorem ReadsF.cons {P : Program} {f : Field} {fl : List Field} {off k n : Nat} {α β : Type} {row : α → Nat → SC} {row' : β → Nat → SC} (h : Reads P f.type α row) (hk : P.cellsOf f.type = k) (ho : f.offset = off) (hf : ReadsF P fl (off + k) β row' n) :
    ReadsF P (f :: fl) off (α × β) (fun x i => if i < k then row x.1 i else row' x.2 (i - k)) (k + n) := by
  intro H enc w spare held fuel cs hx
  obtain ⟨x, h1⟩ := hx f (List.mem_cons_self ..)
  obtain ⟨a, ha, hb⟩ := h h1
  obtain ⟨b, hb'⟩ := hf fun g hg => hx g (List.mem_cons_of_mem _ hg)
  refine ⟨(a, b), fun i v hi hv => ?_⟩
  by_cases hik : i < k
  · simp only [if_pos hik]
    refine hb i v ?_
    rw [List.getElem?_take_of_lt (by rw [hk]; exact hik), List.getElem?_drop, ho]
    exact hv
  · simp only [if_neg hik]
    refine hb' (i - k) v (by omega) ?_
    rw [show off + k + (i - k) = off + i by omega]
    exact hv
theorem Reads.struct {P : Program} {t : TypeId} {fs : Array Field} {α β : Type} {row : α → Nat → SC} {n : Nat} {row0 : β → Nat → SC} (ht : P.underlying t = some (.struct fs)) (hc : P.cellsOf t = n) (hf : ReadsF P fs.toList 0 α row n) (g : α → β)
    (hg : ∀ a i, i < n → row0 (g a) i = row a i) : Reads P t β row0 := by
  intro H enc w spare held fuel cs x h
  obtain ⟨xs, m, _, _, hl, hlen, hfs⟩ := DataW.trod_struct ht h
  obtain ⟨a, ha⟩ := hf (enc := enc) (w := w) (spare := spare) (held := held) (fuel := m) (cs := cs) fun f hf => by
    obtain ⟨i, hi⟩ := List.getElem?_of_mem hf
    have hi' : fs[i]? = some f := by simpa using hi
    have := hfs i f hi'
    have hlt : i < xs.length := by rw [hlen]; exact (Array.getElem?_eq_some_iff.1 hi').1
    exact ⟨xs[i], by rw [this, List.getElem?_eq_getElem hlt]⟩
  refine ⟨g a, hl, fun i v hi => ?_⟩
  have hin : i < n := by rw [← hc, ← hl]; exact (List.getElem?_eq_some_iff.1 hi).1
  rw [hg a i hin]
  exact ha i v hin (by rw [Nat.zero_add]; exact hi)
theorem Reads.arg {P : Program} {t : TypeId} {α : Type} {row : α → Nat → SC} (hr : Reads P t α row) {H : Type} {enc : TypeId × Value → H} {w : World} {spare : Nat → Bool} {held : Bool} {v : Value} {d : DataW H} {ps : List MemPlace}
    (h : DataW.Trod enc P w 0 spare held t v d ps) (hv : v.cells.toList = [v]) : ∃ a : α, MS (Iw w) w (row a 0) v := by
  obtain ⟨fuel, hf⟩ := h
  obtain ⟨a, _, h2⟩ := hr hf
  exact ⟨a, h2 0 v (by rw [hv]; rfl)⟩
def Γw (w : World) : Ctx := ⟨Iw w, fun _ => 0, fun _ => undef⟩
theorem law_walk {P : Program} {f : FuncId} {args : List TV} {cargs : Array Value} {w : World} (h : Pure P f args (vc (bo true))) (hG : GlobOk (Iw w) w) (hm : MTs (Γw w) w args cargs.toList) :
    Calls P f cargs w fun e w' => e = .returned (.bool true) ∧ Below w.heap.size w w' := by
  refine (h.2 (Γw w) w cargs ⟨fun id ob h => (by cases h), fun id ob b h => (by cases h), fun id ob id' ob' b h => (by cases h), fun b hb => hb, hG⟩ hm).mono ?_
  rintro e w' ⟨v, Γ', rfl, hv, _, hg, _⟩
  obtain rfl : v = .bool true := hv
  exact ⟨rfl, hg.os, hg.tape, hg.output, hg.size, fun b hb => hg.keep b ⟨hb, fun id o h => (by cases h)⟩⟩
end AL
namespace AL
open Go Go.Proofs
set_option linter.unusedVariables false
theorem mixed : Tryz.prog.follows .mixedOrders = true := Tryz.checked.mixed
theorem own : ownKnob Tryz.prog.godebug = none := by kernel_rfl
theorem laidOut : laidOutB Tryz.prog = true := by kernel_rfl
end AL
namespace AL
open Go
set_option linter.unusedVariables false
end AL
namespace AL
open Go
set_option linter.unusedVariables false
theorem mcs_ofS {Γ : Ctx} {w : World} : ∀ (k : Nat) (f : Nat → SC) (vs : List Value), vs.length = k → (∀ i v, vs[i]? = some v → MS Γ.I w (f i) v) → MCs Γ w (ofS k f) vs := by
  intro k f vs hl h
  have key : ∀ (l : List Nat) (vs : List Value), vs.length = l.length → (∀ (i : Nat) (v : Value) (q : Nat), vs[i]? = some v → l[i]? = some q → MS Γ.I w (f q) v) → MCs Γ w (l.map fun i => AC.s (f i)) vs := by
    intro l
    induction l with
    | nil => intro vs hl _; cases vs with
      | nil => trivial
      | cons v vs => simp at hl
    | cons q l ih =>
      intro vs hl h
      cases vs with
      | nil => simp at hl
      | cons v vs => exact ⟨h 0 v q rfl rfl, ih vs (by simpa using hl) fun i u q' h1 h2 => h (i + 1) u q' h1 h2⟩
  refine key (List.range k) vs (by simpa using hl) fun i v q h1 h2 => ?_
  have hi : i < k := by
    have := (List.getElem?_eq_some_iff.1 h2).1
    simpa using this
  rw [List.getElem?_range hi] at h2
  cases h2
  exact h i v h1
theorem Reads.agg {P : Program} {t : TypeId} {α : Type} {row : α → Nat → SC} {k : Nat} (hr : Reads P t α row) (hk : P.cellsOf t = k) {H : Type} {enc : TypeId × Value → H} {w : World} {spare : Nat → Bool} {held : Bool} {cs : Array Value} {d : DataW H} {ps : List MemPlace}
    (h : DataW.Trod enc P w 0 spare held t (.agg cs) d ps) : ∃ a : α, MT (Γw w) w (.agg (ofS k (row a))) (.agg cs) := by
  obtain ⟨fuel, hf⟩ := h
  obtain ⟨a, h1, h2⟩ := hr hf
  exact ⟨a, cs, rfl, mcs_ofS k _ _ (by rw [← hk, ← h1]; rfl) h2⟩
theorem MCs.int {Γ : Ctx} {w : World} {k : IntKind} {n : Int} : ∀ {l : List AC} {vs : List Value} {i : Nat}, MCs Γ w l vs → l[i]? = some (.s (.int k n)) → InR k n
  | c :: l, v :: vs, 0, h, hi => by simp at hi; subst hi; exact h.1.2
  | c :: l, v :: vs, i + 1, h, hi => MCs.int h.2 (by simpa using hi)
  | [], [], i, _, hi => by simp at hi
end AL
namespace AL
open Go
set_option linter.unusedVariables false
def AC.le (a b : AC) : Prop := ∀ Γ w v, MC Γ w a v → MC Γ w b v
def acsLe : List AC → List AC → Prop
  | [], [] => True
  | a :: l, b :: m => AC.le a b ∧ acsLe l m
  | _, _ => False
def TV.le (a b : TV) : Prop := ∀ Γ w v, MT Γ w a v → MT Γ w b v
def tvsLe : List TV → List TV → Prop
  | [], [] => True
  | a :: l, b :: m => TV.le a b ∧ tvsLe l m
  | _, _ => False
def AV.le (a b : AV) : Prop := ∀ Γ obj w v, MV Γ obj w a v → MV Γ obj w b v
theorem AC.le_rfl {a : AC} : AC.le a a := fun _ _ _ h => h
theorem TV.le_rfl {a : TV} : TV.le a a := fun _ _ _ h => h
theorem AC.le_nil {k α d row} : AC.le (.s .nilsl) (.s (.sl k α d row [])) := by
  intro Γ w v h
  have h : v = .slice none 0 0 := h
  subst h
  exact ⟨none, 0, rfl, Nat.le_refl _, Nat.zero_le _, .inl ⟨rfl, fun _ => rfl⟩⟩
theorem AC.le_nn {c} : AC.le (.s (.nn c)) (.s c) := fun _ _ _ h => h.1
theorem acsLe.ok {Γ w} : ∀ {l m : List AC} {vs : List Value}, acsLe l m → MCs Γ w l vs → MCs Γ w m vs
  | [], [], _, _, h => h
  | _ :: _, _ :: _, _ :: _, h, h' => ⟨h.1 _ _ _ h'.1, acsLe.ok h.2 h'.2⟩
  | [], _ :: _, _, h, _ => h.elim
  | _ :: _, [], _, h, _ => h.elim
  | _ :: _, _ :: _, [], _, h => h.elim
theorem TV.le_c {a b : AC} (h : AC.le a b) : TV.le (.c a) (.c b) := fun Γ w v hv => h Γ w v hv
theorem TV.le_agg {l m : List AC} (h : acsLe l m) : TV.le (.agg l) (.agg m) := fun Γ w v ⟨cs, e, hm⟩ => ⟨cs, e, h.ok hm⟩
theorem tvsLe.ok {Γ w} : ∀ {l m : List TV} {vs : List Value}, tvsLe l m → MTs Γ w l vs → MTs Γ w m vs
  | [], [], _, _, h => h
  | _ :: _, _ :: _, _ :: _, h, h' => ⟨h.1 _ _ _ h'.1, tvsLe.ok h.2 h'.2⟩
  | [], _ :: _, _, h, _ => h.elim
  | _ :: _, [], _, h, _ => h.elim
  | _ :: _, _ :: _, [], _, h => h.elim
theorem AV.le_t {a b : TV} (h : TV.le a b) : AV.le (.t a) (.t b) := fun Γ obj w v hv => h Γ w v hv
theorem Spec.weak {P : Program} {f : FuncId} {args args' : List TV} {H H' : Nat → Option AObj} {res : AV} (h : tvsLe args args') (hs : Spec P f args' H res H') : Spec P f args H res H' :=
  ⟨hs.1, fun Γ w cargs hh hm => hs.2 Γ w cargs hh (h.ok hm)⟩
theorem ent_weak {s : AS} (t : Nat) {v v' : AV} (ht : s.reg t = v) (h : AV.le v v') : s.ent (s.set (some t) v') := by
  intro G Γ a w hC
  refine ⟨Γ, hC.size, hC.defers, fun t' => ?_, hC.heap, hC.g, hC.ids⟩
  simp only [AS.set]
  by_cases hx : t' = t
  · subst hx
    rw [Nat.beq_refl]
    have := hC.regs t'
    rw [ht] at this
    exact h _ _ _ _ this
  · rw [beq_false hx]; exact hC.regs t'
theorem ent_row {s : AS} (id : Nat) {l m : List AC} (ho : s.obj id = some (.row l)) (h : acsLe l m) : s.ent ⟨s.n, s.reg, fun j => bif Nat.beq j id then some (.row m) else s.obj j⟩ := by
  intro G Γ a w hC
  have key : ∀ j o, (bif Nat.beq j id then some (.row m) else s.obj j) = some o → ∃ o', s.obj j = some o' ∧ o'.width = o.width ∧ (∀ b, fp Γ j o b → fp Γ j o' b) ∧ (MO Γ w j o' → MO Γ w j o) := by
    intro j o hj
    by_cases hx : j = id
    · subst hx
      rw [Nat.beq_refl] at hj
      cases hj
      refine ⟨_, ho, rfl, fun b hb => hb, ?_⟩
      rintro ⟨cs, T, h1, h2⟩
      exact ⟨cs, T, h1, h.ok h2⟩
    · rw [beq_false hx] at hj
      exact ⟨o, hj, rfl, fun b hb => hb, fun h => h⟩
  refine ⟨Γ, hC.size, hC.defers, fun t => ?_, ⟨fun j o hj => ?_, fun j o b hj hb => ?_, fun j o j' o' b hj hj' hb hb' => ?_, hC.heap.ilt, hC.heap.glob⟩, ⟨hC.g.os, hC.g.tape, hC.g.output, hC.g.size, hC.g.prlt, hC.g.keep, hC.g.sub, hC.g.bak, fun j o b hj hb => ?_⟩, hC.ids⟩
  · refine MV.ext (D := fun _ => False) ⟨fun b hb => hb, fun b hb => rfl, fun _ _ => ⟨rfl, rfl⟩⟩ (fun j o _ hj => ?_) (fun d hd => hd.elim) (hC.regs t)
    obtain ⟨o', h1, h2, _⟩ := key j o hj
    exact ⟨o', h1, h2.symm⟩
  · obtain ⟨o', h1, _, _, h4⟩ := key j o hj
    exact h4 (hC.heap.objs j o' h1)
  · obtain ⟨o', h1, _, h3, _⟩ := key j o hj
    exact hC.heap.lt j o' b h1 (h3 b hb)
  · obtain ⟨o1, h1, _, h3, _⟩ := key j o hj
    obtain ⟨o2, g1, _, g3, _⟩ := key j' o' hj'
    exact hC.heap.inj j o1 j' o2 b h1 g1 (h3 b hb) (g3 b hb')
  · obtain ⟨o', h1, _, h3, _⟩ := key j o hj
    exact hC.g.own j o' b h1 (h3 b hb)
section
variable {P : Program} {R : Exit → AS → Prop} {K : List KI} {s : AS}
theorem AMx.isnil {c : Code} (t : Nat) {k : Nat} {α : Type} {d : α} {row : α → Nat → SC} {l : List α} (ht : s.reg t = vc (.sl k α d row l)) (h1 : l = [] → AMx P R (.code c :: K) .normal (s.set (some t) (vc .nilsl)))
    (h2 : AMx P R (.code c :: K) .normal (s.set (some t) (vc (.nn (.sl k α d row l))))) : AMx P R (.code c :: K) .normal s := by
  intro G Γ a w hC
  have hv := hC.regs t
  rw [ht] at hv
  have hv' : MS Γ.I w (.sl k α d row l) (a.tmps.getD t undef) := hv
  obtain ⟨ad, cap, e, e1, e2, e3⟩ := hv
  have mk : ∀ v', MV Γ s.obj w v' (a.tmps.getD t undef) → Conc G Γ (s.set (some t) v') a w := fun v' hv' => by
    refine ⟨hC.size, hC.defers, fun t' => ?_, hC.heap, hC.g, hC.ids⟩
    simp only [AS.set]
    by_cases hx : t' = t
    · subst hx; rw [Nat.beq_refl]; exact hv'
    · rw [beq_false hx]; exact hC.regs t'
  cases ad with
  | none =>
    have hl : l = [] ∧ cap = 0 := by
      rcases e3 with ⟨h, h'⟩ | ⟨b, off, h, _⟩
      · exact ⟨h, h' rfl⟩
      · cases h
    obtain ⟨rfl, rfl⟩ := hl
    exact h1 rfl G Γ a w (mk _ e)
  | some ad => exact h2 G Γ a w (mk _ ⟨hv', ad, _, _, e⟩)
end
theorem MCs.len {Γ : Ctx} {w : World} {k : Nat} {α : Type} {d : α} {row : α → Nat → SC} {m : List α} : ∀ {l : List AC} {vs : List Value} {i : Nat}, MCs Γ w l vs → l[i]? = some (.s (.sl k α d row m)) → m.length ≤ maxLen
  | c :: l, v :: vs, 0, h, hi => by
    simp at hi; subst hi
    obtain ⟨a, cap, _, h1, h2, _⟩ := (show MS Γ.I w (.sl k α d row m) v from h.1)
    omega
  | c :: l, v :: vs, i + 1, h, hi => MCs.len h.2 (by simpa using hi)
  | [], [], i, _, hi => by simp at hi
section
variable {P : Program} {R : Exit → AS → Prop} {K : List KI} {s : AS}
end
def isGrow : AObj → Bool
  | .grow .. => true
  | _ => false
def RetO (P : Program) (fn : Func) (o : AObj) (e : Exit) (s : AS) : Prop :=
  (e = .ret ∨ e = .normal) ∧ ∃ id o', evRes P fn s = some (.t (.c (.own id))) ∧ s.obj id = some o' ∧ o' = o
theorem Own.of_body {P : Program} {f : FuncId} {fn : Func} {c : Code} {args : List TV} {o : AObj} {n : Nat} (hf : P.funcs[f]? = some fn) (hb : fn.body = some c) (hn : (fn.name == "runtime.NumGoroutine") = false)
    (hnt : fn.ntmps = n) (hle : Nat.ble args.length n = true) (hg : isGrow o = true) (h : AMx P (RetO P fn o) [.code c] .normal (AS.lst n (argRegs 0 args) [])) (d : Nat) : Spec P f args H0 (vo d) (ofH [(d, o)]) := by
  refine ⟨⟨fn, hf, by rw [hb]; rfl, hn⟩, fun Γ w cargs hh hm => ?_⟩
  refine calls_of_wp hf hb ?_
  have hC := body_start (P := P) (H := []) hnt hle hh hm
  refine wp_mono (h _ _ _ _ hC) ?_
  rintro e a' w' ⟨s', Γ', ⟨he, id, _, hr, hid, rfl⟩, hC'⟩
  obtain ⟨v, h1, h2, h3⟩ := res_ok (P := P) (fn := fn) hC' hr
  rename_i o
  have hpost : a'.defers = [] ∧ ∃ v, (results fn a'.tmps).run P w' = Result.ok v w' ∧ ∃ v_1 Γ', Ending.returned v = .returned v_1 ∧ MV Γ' (ofH [(d, o)]) w' (vo d) v_1 ∧ HeapOk Γ' (ofH [(d, o)]) w' ∧ GOk ⟨w, prOf Γ (ofH []) w, Γ.I, Γ.ρ, Γ.η, []⟩ Γ' (ofH [(d, o)]) w' ∧ Agree (fun id => ofH [(d, o)] id ≠ none ∧ H0 id = none) Γ Γ' := by
    let Γ2 : Ctx := ⟨Γ'.I, fun j => bif Nat.beq j d then Γ'.ρ id else Γ.ρ j, fun j => bif Nat.beq j d then Γ'.η id else Γ.η j⟩
    have er : Γ2.ρ d = Γ'.ρ id := by show (bif Nat.beq d d then _ else _) = _; rw [Nat.beq_refl]; rfl
    have ee : Γ2.η d = Γ'.η id := by show (bif Nat.beq d d then _ else _) = _; rw [Nat.beq_refl]; rfl
    have hfp : ∀ b, fp Γ2 d o b → fp Γ' id o b := fun b hb => by
      unfold fp at hb ⊢
      rw [er, ee] at hb
      exact hb
    refine ⟨hC'.defers, v, h1, v, Γ2, rfl, ?_, ⟨fun j o' hj => ?_, fun j o' b hj hb => ?_, fun j o1 j' o2 b hj hj' _ _ => ?_, hC'.heap.ilt, hC'.heap.glob⟩,
      ⟨hC'.g.os, hC'.g.tape, hC'.g.output, hC'.g.size, hC'.g.prlt, hC'.g.keep, hC'.g.sub, hC'.g.bak, fun j o' b hj hb => ?_⟩, fun j hj => ?_⟩
    · have h2' : v = Γ'.η id ∧ v.oneCell' = true := h2
      exact ⟨h2'.1.trans ee.symm, h2'.2⟩
    · obtain ⟨rfl, rfl⟩ := ofH_one.1 hj
      have := hC'.heap.objs id _ hid
      cases o' with
      | grow T k α dd row l =>
        unfold MO at this ⊢
        rw [er, ee]
        exact this
      | _ => cases hg
    · obtain ⟨rfl, rfl⟩ := ofH_one.1 hj
      exact hC'.heap.lt id _ b hid (hfp b hb)
    · obtain ⟨rfl, _⟩ := ofH_one.1 hj
      obtain ⟨rfl, _⟩ := ofH_one.1 hj'
      rfl
    · obtain ⟨rfl, rfl⟩ := ofH_one.1 hj
      exact hC'.g.own id _ b hid (hfp b hb)
    · have : j ≠ d := fun e => hj ⟨by subst e; rw [ofH_one.2 ⟨rfl, rfl⟩]; simp, rfl⟩
      refine ⟨?_, ?_⟩
      · show (bif Nat.beq j d then _ else _) = _; rw [beq_false this]; rfl
      · show (bif Nat.beq j d then _ else _) = _; rw [beq_false this]; rfl
  rcases he with rfl | rfl
  · exact hpost
  · exact hpost
end AL
namespace AL
open Go
set_option linter.unusedVariables false
theorem MCs.set_own {Γ : Ctx} {w : World} {d : Nat} {post : List AC} : ∀ {pre : List AC} {vs : List Value}, Γ.η d = .slice none 0 0 → MCs Γ w (pre ++ .s .nilsl :: post) vs → MCs Γ w (pre ++ .own d :: post) vs
  | [], v :: vs, hη, h => by
    refine ⟨?_, h.2⟩
    have h1 : v = .slice none 0 0 := h.1
    subst h1
    exact ⟨hη.symm, rfl⟩
  | c :: pre, v :: vs, hη, h => ⟨h.1, MCs.set_own hη h.2⟩
  | [], [], _, h => h.elim
  | _ :: _, [], _, h => h.elim
theorem ent_adoptO {n : Nat} {L : List (Nat × AV)} {H : List (Nat × AObj)} (h d : Nat) (pre post : List AC) (T : TypeId) (k : Nat) (α : Type) (dd : α) (row : α → Nat → SC) (ho : ofH H h = some (.row (pre ++ .s .nilsl :: post)))
    (hd : Nat.blt d n = true) (hf : hasL d L = false) (hf' : hasO d H = false) :
    (AS.lst n L H).ent ⟨n, lkp L, fun j => bif Nat.beq j d then some (.grow T k α dd row []) else bif Nat.beq j h then some (.row (pre ++ .own d :: post)) else ofH H j⟩ := by
  intro G Γ a w hC
  obtain ⟨f1, f2⟩ := hasO_ok hf'
  let Γ' := mkΓ Γ d (Γ.ρ d) (.slice none 0 0)
  have hext : Ext (fun id => id = d) Γ w Γ' w := ⟨fun b hb => hb, fun b _ => rfl, mk_agree Γ d _ _⟩
  have hdh : h ≠ d := fun e => by subst e; rw [f1] at ho; cases ho
  have hobj : ∀ j o, (bif Nat.beq j d then some (AObj.grow T k α dd row []) else bif Nat.beq j h then some (.row (pre ++ .own d :: post)) else ofH H j) = some o →
      (j = d ∧ o = .grow T k α dd row []) ∨ (j ≠ d ∧ j = h ∧ o = .row (pre ++ .own d :: post)) ∨ (j ≠ d ∧ j ≠ h ∧ ofH H j = some o) := by
    intro j o hj
    by_cases h1 : j = d
    · subst h1; rw [Nat.beq_refl] at hj; cases hj; exact .inl ⟨rfl, rfl⟩
    · rw [beq_false h1] at hj
      by_cases h2 : j = h
      · subst h2; rw [Nat.beq_refl] at hj; cases hj; exact .inr (.inl ⟨h1, rfl, rfl⟩)
      · rw [beq_false h2] at hj; exact .inr (.inr ⟨h1, h2, hj⟩)
  have hfp : ∀ j o b, j ≠ d → fp Γ' j o b → fp Γ j o b := fun j o b hj h => (fp.ext (mk_agree Γ d (Γ.ρ d) (.slice none 0 0)) hj).1 h
  have hnf : ∀ b, ¬ fp Γ' d (.grow T k α dd row []) b := fun b h => by
    have := h.2
    simp only [Γ', mk_η] at this
    exact this rfl
  have hrow : ∀ b, fp Γ' h (.row (pre ++ .own d :: post)) b → fp Γ h (.row (pre ++ .s .nilsl :: post)) b := fun b hb => (fp.ext (mk_agree Γ d (Γ.ρ d) (.slice none 0 0)) hdh).1 (show fp Γ' h (.row (pre ++ .s .nilsl :: post)) b from hb)
  have hmo : MO Γ' w h (.row (pre ++ .s .nilsl :: post)) := MO.ext hext hdh (fun e he => by subst he; exact f2 h _ ho) (fun b _ => rfl) (hC.heap.objs h _ ho)
  have old : ∀ j o, (bif Nat.beq j d then some (AObj.grow T k α dd row []) else bif Nat.beq j h then some (.row (pre ++ .own d :: post)) else ofH H j) = some o → j ≠ d → ∃ o', ofH H j = some o' ∧ o'.width = o.width ∧ ∀ b, fp Γ' j o b → fp Γ j o' b := by
    intro j o hj hjd
    rcases hobj j o hj with ⟨h1, _⟩ | ⟨_, rfl, rfl⟩ | ⟨h1, h2, h3⟩
    · exact absurd h1 hjd
    · exact ⟨_, ho, rfl, hrow⟩
    · exact ⟨o, h3, rfl, fun b => hfp j o b h1⟩
  refine ⟨Γ', ⟨hC.size, hC.defers, fun u => ?_, ⟨fun j o hj => ?_, fun j o b hj hb => ?_, fun j o j' o' b hj hj' hb hb' => ?_, hC.heap.ilt, hC.heap.glob⟩, ⟨hC.g.os, hC.g.tape, hC.g.output, hC.g.size, hC.g.prlt, hC.g.keep, hC.g.sub, hC.g.bak, fun j o b hj hb => ?_⟩, fun i hi => ?_⟩⟩
  · refine MV.ext hext (fun j o hj ho' => ?_) (fun e he => by subst he; exact hasL_ok hf u) (hC.regs u)
    obtain ⟨o', h1, h2, _⟩ := old j o ho' hj
    exact ⟨o', h1, h2.symm⟩
  · rcases hobj j o hj with ⟨rfl, rfl⟩ | ⟨h1, rfl, rfl⟩ | ⟨h1, h2, h3⟩
    · exact .inl ⟨by simp only [Γ', mk_η], rfl⟩
    · obtain ⟨cs, T', q1, q2⟩ := hmo
      exact ⟨cs, T', q1, q2.set_own (by simp only [Γ', mk_η])⟩
    · exact MO.ext hext h1 (fun e he => by subst he; exact f2 j o h3) (fun b _ => rfl) (hC.heap.objs j o h3)
  · by_cases hjd : j = d
    · rcases hobj j o hj with ⟨rfl, rfl⟩ | ⟨h1, _⟩ | ⟨h1, _⟩
      · exact absurd hb (hnf b)
      · exact absurd hjd h1
      · exact absurd hjd h1
    · obtain ⟨o', h1, _, h3⟩ := old j o hj hjd
      exact hC.heap.lt j o' b h1 (h3 b hb)
  · by_cases hjd : j = d
    · rcases hobj j o hj with ⟨rfl, rfl⟩ | ⟨h1, _⟩ | ⟨h1, _⟩
      · exact absurd hb (hnf b)
      · exact absurd hjd h1
      · exact absurd hjd h1
    · by_cases hjd' : j' = d
      · rcases hobj j' o' hj' with ⟨rfl, rfl⟩ | ⟨h1, _⟩ | ⟨h1, _⟩
        · exact absurd hb' (hnf b)
        · exact absurd hjd' h1
        · exact absurd hjd' h1
      · obtain ⟨o1, h1, _, h3⟩ := old j o hj hjd
        obtain ⟨o2, g1, _, g3⟩ := old j' o' hj' hjd'
        exact hC.heap.inj j o1 j' o2 b h1 g1 (h3 b hb) (g3 b hb')
  · by_cases hjd : j = d
    · rcases hobj j o hj with ⟨rfl, rfl⟩ | ⟨h1, _⟩ | ⟨h1, _⟩
      · exact absurd hb (hnf b)
      · exact absurd hjd h1
      · exact absurd hjd h1
    · obtain ⟨o', h1, _, h3⟩ := old j o hj hjd
      exact hC.g.own j o' b h1 (h3 b hb)
  · have hdn := Nat.le_of_ble_eq_true hd
    obtain ⟨e1, e2⟩ := mk_agree Γ d (Γ.ρ d) (.slice none 0 0) i (by have : n ≤ i := hi; omega)
    show (mkΓ Γ d (Γ.ρ d) (.slice none 0 0)).ρ i = _ ∧ (mkΓ Γ d (Γ.ρ d) (.slice none 0 0)).η i = _
    rw [e1, e2]
    exact hC.ids i hi
end AL
namespace AL
open Go
set_option linter.unusedVariables false
theorem put_heap {α : Type} [Inhabited α] {enc : α → Value} {w : World} {n b : Nat} {d : Array α} {cur : Array Value} {T : TypeId} (h : w.heap[b]? = some (.cells cur T (0, 0))) :
    (Sort.putRow enc (Sort.ahead w n) b 0 d).heap[b]? = some (.cells (Sort.putCells enc 0 d cur) T (0, 0)) := by
  unfold Sort.putRow Sort.mapBlock
  simp only [Sort.ahead, Array.getElem?_modify, if_pos, h, Option.map_some]
  rfl
theorem put_other {α : Type} [Inhabited α] {enc : α → Value} {w : World} {n b k : Nat} {d : Array α} (h : k ≠ b) : (Sort.putRow enc (Sort.ahead w n) b 0 d).heap[k]? = w.heap[k]? := by
  unfold Sort.putRow Sort.mapBlock
  simp only [Sort.ahead, Array.getElem?_modify]
  rw [if_neg (Ne.symm h)]
theorem put_size {α : Type} [Inhabited α] {enc : α → Value} {w : World} {n b : Nat} {d : Array α} : (Sort.putRow enc (Sort.ahead w n) b 0 d).heap.size = w.heap.size := by
  unfold Sort.putRow Sort.mapBlock; simp [Sort.ahead]
theorem put_get {α : Type} [Inhabited α] {enc : α → Value} {l : List α} {cur : Array Value} {j : Nat} {x : α} (h : l[j]? = some x) (hj : j < cur.size) : (Sort.putCells enc 0 l.toArray cur)[j]? = some (enc x) := by
  have hl := (List.getElem?_eq_some_iff.1 h).1
  unfold Sort.putCells
  rw [Array.getElem?_mapIdx, Array.getElem?_eq_getElem hj, Option.map_some, if_pos ⟨Nat.zero_le _, by simpa using hl⟩, Nat.sub_zero]
  congr 2
  rw [getElem!_pos _ j (by simpa using hl)]
  have := (List.getElem?_eq_some_iff.1 h).2
  simpa using this
theorem put_csize {α : Type} [Inhabited α] {enc : α → Value} {d : Array α} {cur : Array Value} : (Sort.putCells enc 0 d cur).size = cur.size := by simp [Sort.putCells]
structure OneRow (α : Type) [Inhabited α] (row : α → Nat → SC) (enc : α → Value) (good : α → Prop) : Prop where
  ms : ∀ {I w x v}, MS I w (row x 0) v → v = enc x ∧ good x
  put : ∀ {I w x}, good x → MS I w (row x 0) (enc x)
section
variable {P : Program} {f : FuncId} {α : Type} [Inhabited α] {row : α → Nat → SC} {enc : α → Value} {good : α → Prop} {d : α} {T : TypeId} {l : List α}
theorem grow_holds (hr : OneRow α row enc good) {Γ : Ctx} {w : World} {cur : Array Value} {b : Nat} (hb : w.heap[b]? = some (.cells cur T (0, 0)))
    (hm : ∀ j x, l[j]? = some x → ∀ i, i < 1 → ∃ u, cur[j * 1 + i]? = some u ∧ MS Γ.I w (row x i) u) : Sort.Holds enc w b 0 l.toArray ∧ ∀ x ∈ l, good x := by
  constructor
  · intro j hj
    have hj : j < l.length := by simpa using hj
    obtain ⟨u, hu, hms⟩ := hm j l[j] (List.getElem?_eq_getElem hj) 0 (by omega)
    obtain ⟨rfl, _⟩ := hr.ms hms
    refine ⟨?_, ?_⟩
    · rw [Nat.zero_add, cell_of_heap hb]
      have e : j * 1 + 0 = j := by omega
      rw [e] at hu
      rw [hu, getElem!_pos _ j (by simpa using hj)]
      simp
    · unfold World.frozen?
      rw [hb]
      simp
  · intro x hx
    obtain ⟨j, hj⟩ := List.getElem?_of_mem hx
    obtain ⟨u, _, hms⟩ := hm j x hj 0 (by omega)
    exact (hr.ms hms).2
theorem Spec.inplace (hc : Callable P f) (hr : OneRow α row enc good) {l' : List α} (hlen : l'.length = l.length) (hmem : ∀ x ∈ l', x ∈ l)
    (hcon : ∀ b cap w, Sort.Holds enc w b 0 l.toArray → b < w.heap.size → Calls P f #[.slice (some ⟨b, 0, none⟩) l.length cap] w fun e w' => e = .returned (.tuple #[]) ∧ ∃ n os, w' = Sort.grow (Sort.putRow enc (Sort.ahead w n) b 0 l'.toArray) os)
    (hnil : l = [] → ∀ p cap w, Calls P f #[.slice p 0 cap] w fun e w' => e = .returned (.tuple #[]) ∧ w' = w) (id : Nat) :
    Spec P f [.c (.own id)] (ofH [(id, .grow T 1 α d row l)]) (.tup []) (ofH [(id, .grow T 1 α d row l')]) := by
  refine ⟨hc, fun Γ w cargs hh hm => ?_⟩
  obtain ⟨v, hv⟩ : ∃ v, cargs = #[v] := by
    have := hm.length
    rw [Array.length_toList] at this
    match cargs, this with
    | ⟨[v]⟩, _ => exact ⟨v, rfl⟩
  subst hv
  obtain ⟨⟨hv, _⟩, _⟩ := (show (v = Γ.η id ∧ v.oneCell' = true) ∧ True from hm)
  subst hv
  have ho := hh.objs id _ (ofH_one.2 ⟨rfl, rfl⟩)
  have done : ∀ w', w'.os = w.os → w'.tape = w.tape → w'.output = w.output → w.heap.size ≤ w'.heap.size → (∀ b, b < w.heap.size → ¬ fp Γ id (.grow T 1 α d row l) b → w'.heap[b]? = w.heap[b]?) → MO Γ w' id (.grow T 1 α d row l') →
      ∃ v Γ', Ending.returned (.tuple #[]) = .returned v ∧ MV Γ' (ofH [(id, .grow T 1 α d row l')]) w' (.tup []) v ∧ HeapOk Γ' (ofH [(id, .grow T 1 α d row l')]) w' ∧ GOk ⟨w, prOf Γ (ofH [(id, .grow T 1 α d row l)]) w, Γ.I, Γ.ρ, Γ.η, []⟩ Γ' (ofH [(id, .grow T 1 α d row l')]) w' ∧
        Agree (fun j => ofH [(id, .grow T 1 α d row l')] j ≠ none ∧ ofH [(id, .grow T 1 α d row l)] j = none) Γ Γ' := by
    intro w' h1 h2 h3 h4 h5 h6
    have hid := ofH_one.2 (⟨rfl, rfl⟩ : id = id ∧ AObj.grow T 1 α d row l = .grow T 1 α d row l)
    have hfp : ∀ b, fp Γ id (.grow T 1 α d row l') b → fp Γ id (.grow T 1 α d row l) b := fun b hb => hb
    refine ⟨_, Γ, rfl, ⟨#[], rfl, trivial⟩, ⟨fun j o hj => ?_, fun j o b hj hb => ?_, fun j o1 j' o2 b hj hj' _ _ => ?_, fun b hb => Nat.lt_of_lt_of_le (hh.ilt b hb) h4, hh.glob.mono (fun b hb => hb) fun b hb => h5 b (hh.ilt b hb) fun hf => (hh.lt id _ b hid hf).2 hb⟩,
      ⟨h1, h2, h3, h4, fun b hb => hb.1, fun b hb => h5 b hb.1 fun hf => hb.2 id _ hid hf, fun b hb => hb, fun b _ hb => hb, fun j o b hj hb hp => ?_⟩, fun _ _ => ⟨rfl, rfl⟩⟩
    · obtain ⟨rfl, rfl⟩ := ofH_one.1 hj; exact h6
    · obtain ⟨rfl, rfl⟩ := ofH_one.1 hj
      have := hh.lt j _ b hid (hfp b hb)
      exact ⟨Nat.lt_of_lt_of_le this.1 h4, this.2⟩
    · obtain ⟨rfl, _⟩ := ofH_one.1 hj; obtain ⟨rfl, _⟩ := ofH_one.1 hj'; rfl
    · obtain ⟨rfl, rfl⟩ := ofH_one.1 hj
      exact hp.2 j _ hid (hfp b hb)
  rcases ho with ⟨hη, hl⟩ | ⟨cap, cur, hη, hb, hlc, hcm, hcs, hmm⟩
  · rw [hη]
    have hl' : l' = [] := List.eq_nil_of_length_eq_zero (by rw [hlen, hl]; rfl)
    refine (hnil hl none 0 w).mono ?_
    rintro e w' ⟨rfl, rfl⟩
    exact done w' rfl rfl rfl (Nat.le_refl _) (fun b _ _ => rfl) (.inl ⟨hη, hl'⟩)
  · rw [hη]
    obtain ⟨h1, h2⟩ := grow_holds (T := T) hr hb hmm
    have hfid : fp Γ id (.grow T 1 α d row l) (Γ.ρ id) := ⟨rfl, by rw [hη]; simp⟩
    have hlt := fp_lt hh (ofH_one.2 ⟨rfl, rfl⟩) hfid
    refine (hcon (Γ.ρ id) cap w h1 hlt).mono ?_
    rintro e w' ⟨rfl, n, os, rfl⟩
    have hold : ∀ b, b < w.heap.size → (Sort.grow (Sort.putRow enc (Sort.ahead w n) (Γ.ρ id) 0 l'.toArray) os).heap[b]? = (Sort.putRow enc (Sort.ahead w n) (Γ.ρ id) 0 l'.toArray).heap[b]? := fun b hb => by
      show (_ ++ os)[b]? = _
      rw [Array.getElem?_append_left (by rw [put_size]; exact hb)]
    refine done _ rfl rfl rfl (by show _ ≤ (_ ++ os).size; rw [Array.size_append, put_size]; omega) (fun b hb hnf => ?_) (.inr ⟨cap, Sort.putCells enc 0 l'.toArray cur, by rw [hη, hlen], ?_, by rw [hlen]; exact hlc, hcm, by rw [put_csize]; exact hcs, fun j x hx i hi => ?_⟩)
    · rw [hold b hb, put_other fun e => hnf (by rw [e]; exact hfid)]
    · rw [hold _ hlt]; exact put_heap hb
    · obtain rfl : i = 0 := by omega
      have hjl := (List.getElem?_eq_some_iff.1 hx).1
      refine ⟨enc x, ?_, hr.put (h2 x (hmem x (List.mem_of_getElem? hx)))⟩
      rw [Nat.mul_one, Nat.add_zero]
      exact put_get hx (by rw [hcs]; omega)
end
theorem Pure.of_calls {P : Program} {f : FuncId} {args : List TV} {res : AV} (hc : Callable P f)
    (h : ∀ Γ w cargs, MTs Γ w args cargs.toList → Calls P f cargs w fun e w' => ∃ v, e = .returned v ∧ w' = w ∧ MV Γ H0 w res v) : Pure P f args res := by
  refine ⟨hc, fun Γ w cargs hh hm => (h Γ w cargs hm).mono ?_⟩
  rintro e w' ⟨v, rfl, rfl, hv⟩
  exact ⟨v, Γ, rfl, hv, hh, ⟨rfl, rfl, rfl, Nat.le_refl _, fun b hb => hb.1, fun b hb => rfl, fun b hb => hb, fun b _ hb => hb, fun j o b hj _ _ => by cases hj⟩, fun _ _ => ⟨rfl, rfl⟩⟩
theorem args2 {Γ : Ctx} {w : World} {a b : TV} {cargs : Array Value} (h : MTs Γ w [a, b] cargs.toList) : ∃ u v, cargs = #[u, v] ∧ MT Γ w a u ∧ MT Γ w b v := by
  have := h.length
  rw [Array.length_toList] at this
  match cargs, this, h with
  | ⟨[u, v]⟩, _, h => exact ⟨u, v, rfl, h.1, h.2.1⟩
end AL
namespace AL
open Go
set_option linter.unusedVariables false
theorem ent_regrow {s : AS} (id : Nat) {T : TypeId} {k : Nat} {α α2 : Type} {d : α} {d2 : α2} {row : α → Nat → SC} {row2 : α2 → Nat → SC} {l : List α} {l2 : List α2} (ho : s.obj id = some (.grow T k α d row l)) (hlen : l2.length = l.length)
    (h : ∀ (j : Nat) x y, l[j]? = some x → l2[j]? = some y → ∀ i, i < k → AC.le (.s (row x i)) (.s (row2 y i))) :
    s.ent ⟨s.n, s.reg, fun j => bif Nat.beq j id then some (.grow T k α2 d2 row2 l2) else s.obj j⟩ := by
  intro G Γ a w hC
  have key : ∀ j o, (bif Nat.beq j id then some (AObj.grow T k α2 d2 row2 l2) else s.obj j) = some o → ∃ o', s.obj j = some o' ∧ o'.width = o.width ∧ (∀ b, fp Γ j o b → fp Γ j o' b) ∧ (MO Γ w j o' → MO Γ w j o) := by
    intro j o hj
    by_cases hx : j = id
    · subst hx
      rw [Nat.beq_refl] at hj
      cases hj
      refine ⟨_, ho, rfl, fun b hb => hb, ?_⟩
      rintro (⟨h1, h2⟩ | ⟨cap, cur, h1, h2, h3, h4, h5, h6⟩)
      · exact .inl ⟨h1, List.eq_nil_of_length_eq_zero (by rw [hlen, h2]; rfl)⟩
      · refine .inr ⟨cap, cur, by rw [hlen]; exact h1, h2, by rw [hlen]; exact h3, h4, h5, fun i y hy c hc => ?_⟩
        have hi := (List.getElem?_eq_some_iff.1 hy).1
        rw [hlen] at hi
        obtain ⟨u, g1, g2⟩ := h6 i l[i] (List.getElem?_eq_getElem hi) c hc
        exact ⟨u, g1, h i l[i] y (List.getElem?_eq_getElem hi) hy c hc Γ w u g2⟩
    · rw [beq_false hx] at hj
      exact ⟨o, hj, rfl, fun b hb => hb, fun h => h⟩
  refine ⟨Γ, hC.size, hC.defers, fun t => ?_, ⟨fun j o hj => ?_, fun j o b hj hb => ?_, fun j o j' o' b hj hj' hb hb' => ?_, hC.heap.ilt, hC.heap.glob⟩, ⟨hC.g.os, hC.g.tape, hC.g.output, hC.g.size, hC.g.prlt, hC.g.keep, hC.g.sub, hC.g.bak, fun j o b hj hb => ?_⟩, hC.ids⟩
  · refine MV.ext (D := fun _ => False) ⟨fun b hb => hb, fun b hb => rfl, fun _ _ => ⟨rfl, rfl⟩⟩ (fun j o _ hj => ?_) (fun d hd => hd.elim) (hC.regs t)
    obtain ⟨o', h1, h2, _⟩ := key j o hj
    exact ⟨o', h1, h2.symm⟩
  · obtain ⟨o', h1, _, _, h4⟩ := key j o hj
    exact h4 (hC.heap.objs j o' h1)
  · obtain ⟨o', h1, _, h3, _⟩ := key j o hj
    exact hC.heap.lt j o' b h1 (h3 b hb)
  · obtain ⟨o1, h1, _, h3, _⟩ := key j o hj
    obtain ⟨o2, g1, _, g3, _⟩ := key j' o' hj'
    exact hC.heap.inj j o1 j' o2 b h1 g1 (h3 b hb) (g3 b hb')
  · obtain ⟨o', h1, _, h3, _⟩ := key j o hj
    exact hC.g.own j o' b h1 (h3 b hb)
end AL
namespace AL
open Go Go.RowKit
set_option linter.unusedVariables false
theorem HeapOk.below {Γ : Ctx} {w w' : World} (hh : HeapOk Γ H0 w) (hb : Below w.heap.size w w') : HeapOk Γ H0 w' :=
  ⟨fun _ _ h => (by cases h), fun _ _ _ h => (by cases h), fun _ _ _ _ _ h => (by cases h), fun b hi => Nat.lt_of_lt_of_le (hh.ilt b hi) hb.size, hh.glob.mono (fun b h => h) fun b hi => hb.block b (hh.ilt b hi)⟩
theorem Pure.of_below {P : Program} {f : FuncId} {args : List TV} {res : AV} (hc : Callable P f)
    (h : ∀ Γ w cargs, HeapOk Γ H0 w → MTs Γ w args cargs.toList → Calls P f cargs w fun e w' => ∃ v, e = .returned v ∧ Below w.heap.size w w' ∧ MV Γ H0 w' res v) : Pure P f args res := by
  refine ⟨hc, fun Γ w cargs hh hm => (h Γ w cargs hh hm).mono ?_⟩
  rintro e w' ⟨v, rfl, hb, hv⟩
  exact ⟨v, Γ, rfl, hv, hh.below hb, ⟨hb.os, hb.tape, hb.output, hb.size, fun b hb => hb.1, fun b hp => hb.block b hp.1, fun b hb => hb, fun b _ hb => hb, fun j o b hj _ _ => by cases hj⟩, fun _ _ => ⟨rfl, rfl⟩⟩
theorem Pure.below {P : Program} {f : FuncId} {args : List TV} {res : AV} (h : Pure P f args res) {Γ : Ctx} {w : World} {cargs : Array Value} (hh : HeapOk Γ H0 w) (hm : MTs Γ w args cargs.toList) :
    Calls P f cargs w fun e w' => ∃ v Γ', e = .returned v ∧ MV Γ' H0 w' res v ∧ Below w.heap.size w w' := by
  refine (h.2 Γ w cargs hh hm).mono ?_
  rintro e w' ⟨v, Γ', rfl, hv, _, hg, _⟩
  exact ⟨v, Γ', rfl, hv, hg.os, hg.tape, hg.output, hg.size, fun b hb => hg.keep b ⟨hb, fun id o h => (by cases h)⟩⟩
theorem args1 {Γ : Ctx} {w : World} {a : TV} {cargs : Array Value} (h : MTs Γ w [a] cargs.toList) : ∃ u, cargs = #[u] ∧ MT Γ w a u := by
  have := h.length
  rw [Array.length_toList] at this
  match cargs, this, h with
  | ⟨[u]⟩, _, h => exact ⟨u, rfl, h.1⟩
end AL
namespace AL
open Go
set_option linter.unusedVariables false
def RetIO (P : Program) (fn : Func) (res : AV) (D : Nat) (o : AObj) (e : Exit) (s : AS) : Prop :=
  (e = .ret ∨ e = .normal) ∧ ∃ r o', evRes P fn s = some r ∧ r = res ∧ s.obj D = some o' ∧ o' = o ∧ Nat.ble s.n D = true
theorem IO.of_body {P : Program} {f : FuncId} {fn : Func} {c : Code} {rest : List TV} {res : AV} {n D : Nat} {row row' : List AC} (hf : P.funcs[f]? = some fn) (hb : fn.body = some c) (hn : (fn.name == "runtime.NumGoroutine") = false)
    (hnt : fn.ntmps = n) (hle : Nat.ble (rest.length + 1) n = true) (hno : res.no = true) (hr : tvsNo rest = true) (hi : acsNo row = true) (ho : acsNo row' = true)
    (h : AMx P (RetIO P fn res D (.row row')) [.code c] .normal (AS.lst n (argRegs 0 (.c (.ptr D 0) :: rest)) [(D, .row row)])) (d : Nat) :
    Spec P f (.c (.ptr d 0) :: rest) (ofH [(d, .row row)]) res (ofH [(d, .row row')]) := by
  refine ⟨⟨fn, hf, by rw [hb]; rfl, hn⟩, fun Γ w cargs hh hm => ?_⟩
  refine calls_of_wp hf hb ?_
  let Γ1 : Ctx := ⟨Γ.I, fun j => bif Nat.beq j D then Γ.ρ d else Γ.ρ j, fun j => bif Nat.beq j D then Γ.η d else Γ.η j⟩
  have er : Γ1.ρ D = Γ.ρ d := by show (bif Nat.beq D D then _ else _) = _; rw [Nat.beq_refl]; rfl
  have hx1 : Ext (fun _ => True) Γ w Γ1 w := ⟨fun b hb => hb, fun b hb => rfl, fun id h => absurd trivial h⟩
  have hfp : ∀ o b, fp Γ1 D (.row o) b ↔ fp Γ d (.row o) b := fun o b => by unfold fp; rw [er]
  have hh1 : HeapOk Γ1 (ofH [(D, .row row)]) w := by
    refine ⟨fun j o hj => ?_, fun j o b hj hb => ?_, fun j o j' o' b hj hj' _ _ => ?_, hh.ilt, hh.glob⟩
    · obtain ⟨rfl, rfl⟩ := ofH_one.1 hj
      obtain ⟨cs, T, h1, h2⟩ := hh.objs d _ (ofH_one.2 ⟨rfl, rfl⟩)
      exact ⟨cs, T, by rw [er]; exact h1, MCs.ext hx1 (acsNo_has row hi) h2⟩
    · obtain ⟨rfl, rfl⟩ := ofH_one.1 hj
      exact hh.lt d _ b (ofH_one.2 ⟨rfl, rfl⟩) ((hfp _ _).1 hb)
    · obtain ⟨rfl, _⟩ := ofH_one.1 hj
      obtain ⟨rfl, _⟩ := ofH_one.1 hj'
      rfl
  have hm1 : MTs Γ1 w (.c (.ptr D 0) :: rest) cargs.toList := by
    revert hm
    cases cargs.toList with
    | nil => intro h; exact h.elim
    | cons v l =>
      intro h
      refine ⟨?_, MTs.ext hx1 (tvsNo_has rest hr) h.2⟩
      have h0 : v = .pointer (some ⟨Γ.ρ d, 0, none⟩) := h.1
      show v = .pointer (some ⟨Γ1.ρ D, 0, none⟩)
      rw [er]; exact h0
  have hpr : prOf Γ1 (ofH [(D, .row row)]) w = prOf Γ (ofH [(d, .row row)]) w := by
    funext b
    apply propext
    constructor
    · rintro ⟨h1, h2⟩
      refine ⟨h1, fun j o hj hb => ?_⟩
      obtain ⟨rfl, rfl⟩ := ofH_one.1 hj
      exact h2 D _ (ofH_one.2 ⟨rfl, rfl⟩) ((hfp _ _).2 hb)
    · rintro ⟨h1, h2⟩
      refine ⟨h1, fun j o hj hb => ?_⟩
      obtain ⟨rfl, rfl⟩ := ofH_one.1 hj
      exact h2 d _ (ofH_one.2 ⟨rfl, rfl⟩) ((hfp _ _).1 hb)
  have hC := body_start (P := P) (H := [(D, .row row)]) hnt (by exact hle) hh1 hm1
  refine wp_mono (h _ _ _ _ hC) ?_
  rintro e a' w' ⟨s', Γ', ⟨he, r, _, hr, rfl, hD', rfl, hsn⟩, hC'⟩
  obtain ⟨v, h1, h2, h3⟩ := res_ok (P := P) (fn := fn) hC' hr
  have hpost : a'.defers = [] ∧ ∃ v, (results fn a'.tmps).run P w' = Result.ok v w' ∧ ∃ v_1 Γ', Ending.returned v = .returned v_1 ∧ MV Γ' (ofH [(d, .row row')]) w' r v_1 ∧ HeapOk Γ' (ofH [(d, .row row')]) w' ∧ GOk ⟨w, prOf Γ (ofH [(d, .row row)]) w, Γ.I, Γ.ρ, Γ.η, []⟩ Γ' (ofH [(d, .row row')]) w' ∧ Agree (fun id => ofH [(d, .row row')] id ≠ none ∧ ofH [(d, .row row)] id = none) Γ Γ' := by
    let Γ2 : Ctx := ⟨Γ'.I, Γ.ρ, Γ.η⟩
    have hx : Ext (fun _ => True) Γ' w' Γ2 w' := ⟨fun b hb => hb, fun b hb => rfl, fun id h => absurd trivial h⟩
    have eD : Γ'.ρ D = Γ.ρ d := by
      have := (hC'.ids D (Nat.le_of_ble_eq_true hsn)).1
      exact this.trans er
    have hfp2 : ∀ b, fp Γ2 d (.row row') b → fp Γ' D (.row row') b := fun b hb => by
      unfold fp at hb ⊢
      rw [eD]; exact hb
    have hg := hC'.g
    rw [hpr] at hg
    refine ⟨hC'.defers, v, h1, v, Γ2, rfl, MV.ext hx (fun id o h => absurd trivial h) (AV.no_has r hno) (plain_obj (obj' := ofH [(d, .row row')]) h3 h2), ⟨fun j o hj => ?_, fun j o b hj hb => ?_, fun j o j' o' b hj hj' _ _ => ?_, hC'.heap.ilt, hC'.heap.glob⟩,
      ⟨hg.os, hg.tape, hg.output, hg.size, hg.prlt, hg.keep, hg.sub, hg.bak, fun j o b hj hb => ?_⟩, fun _ _ => ⟨rfl, rfl⟩⟩
    · obtain ⟨rfl, rfl⟩ := ofH_one.1 hj
      obtain ⟨cs, T, q1, q2⟩ := hC'.heap.objs D _ hD'
      exact ⟨cs, T, by rw [show Γ2.ρ j = Γ'.ρ D from eD.symm]; exact q1, MCs.ext hx (acsNo_has row' ho) q2⟩
    · obtain ⟨rfl, rfl⟩ := ofH_one.1 hj
      exact hC'.heap.lt D _ b hD' (hfp2 b hb)
    · obtain ⟨rfl, _⟩ := ofH_one.1 hj
      obtain ⟨rfl, _⟩ := ofH_one.1 hj'
      rfl
    · obtain ⟨rfl, rfl⟩ := ofH_one.1 hj
      exact hg.own D _ b hD' (hfp2 b hb)
  rcases he with rfl | rfl
  · exact hpost
  · exact hpost
end AL
namespace AL
open Go
set_option linter.unusedVariables false
theorem grow_mo {Γ Γ2 : Ctx} {w : World} {d id : Nat} {o : AObj} (hg : isGrow o = true) (er : Γ2.ρ d = Γ.ρ id) (ee : Γ2.η d = Γ.η id) (ei : Γ2.I = Γ.I) (h : MO Γ w id o) : MO Γ2 w d o := by
  cases o with
  | grow T k α dd row l =>
    unfold MO at h ⊢
    rw [er, ee, ei]
    exact h
  | _ => cases hg
theorem OwnIO.of_body {P : Program} {f : FuncId} {fn : Func} {c : Code} {rest : List TV} {n D : Nat} {o0 o : AObj} (hf : P.funcs[f]? = some fn) (hb : fn.body = some c) (hn : (fn.name == "runtime.NumGoroutine") = false)
    (hnt : fn.ntmps = n) (hle : Nat.ble (rest.length + 1) n = true) (hr : tvsNo rest = true) (h0 : isGrow o0 = true) (hg : isGrow o = true)
    (h : AMx P (RetO P fn o) [.code c] .normal (AS.lst n (argRegs 0 (.c (.own D) :: rest)) [(D, o0)])) (d d' : Nat) (hd : Nat.beq d d' = false) :
    Spec P f (.c (.own d) :: rest) (ofH [(d, o0)]) (vo d') (ofH [(d', o)]) := by
  refine ⟨⟨fn, hf, by rw [hb]; rfl, hn⟩, fun Γ w cargs hh hm => ?_⟩
  refine calls_of_wp hf hb ?_
  let Γ1 : Ctx := ⟨Γ.I, fun j => bif Nat.beq j D then Γ.ρ d else Γ.ρ j, fun j => bif Nat.beq j D then Γ.η d else Γ.η j⟩
  have er : Γ1.ρ D = Γ.ρ d := by show (bif Nat.beq D D then _ else _) = _; rw [Nat.beq_refl]; rfl
  have ee : Γ1.η D = Γ.η d := by show (bif Nat.beq D D then _ else _) = _; rw [Nat.beq_refl]; rfl
  have hx1 : Ext (fun _ => True) Γ w Γ1 w := ⟨fun b hb => hb, fun b hb => rfl, fun id h => absurd trivial h⟩
  have hfp : ∀ o b, fp Γ1 D o b ↔ fp Γ d o b := fun o b => by unfold fp; rw [er, ee]
  have hh1 : HeapOk Γ1 (ofH [(D, o0)]) w := by
    refine ⟨fun j o hj => ?_, fun j o b hj hb => ?_, fun j o j' o' b hj hj' _ _ => ?_, hh.ilt, hh.glob⟩
    · obtain ⟨rfl, rfl⟩ := ofH_one.1 hj
      exact grow_mo h0 er ee rfl (hh.objs d _ (ofH_one.2 ⟨rfl, rfl⟩))
    · obtain ⟨rfl, rfl⟩ := ofH_one.1 hj
      exact hh.lt d _ b (ofH_one.2 ⟨rfl, rfl⟩) ((hfp _ _).1 hb)
    · obtain ⟨rfl, _⟩ := ofH_one.1 hj
      obtain ⟨rfl, _⟩ := ofH_one.1 hj'
      rfl
  have hm1 : MTs Γ1 w (.c (.own D) :: rest) cargs.toList := by
    revert hm
    cases cargs.toList with
    | nil => intro h; exact h.elim
    | cons v l =>
      intro h
      refine ⟨?_, MTs.ext hx1 (tvsNo_has rest hr) h.2⟩
      have h0 : v = Γ.η d ∧ v.oneCell' = true := h.1
      exact ⟨h0.1.trans ee.symm, h0.2⟩
  have hpr : prOf Γ1 (ofH [(D, o0)]) w = prOf Γ (ofH [(d, o0)]) w := by
    funext b
    apply propext
    constructor
    · rintro ⟨h1, h2⟩
      refine ⟨h1, fun j o hj hb => ?_⟩
      obtain ⟨rfl, rfl⟩ := ofH_one.1 hj
      exact h2 D _ (ofH_one.2 ⟨rfl, rfl⟩) ((hfp _ _).2 hb)
    · rintro ⟨h1, h2⟩
      refine ⟨h1, fun j o hj hb => ?_⟩
      obtain ⟨rfl, rfl⟩ := ofH_one.1 hj
      exact h2 d _ (ofH_one.2 ⟨rfl, rfl⟩) ((hfp _ _).1 hb)
  have hC := body_start (P := P) (H := [(D, o0)]) hnt (by exact hle) hh1 hm1
  refine wp_mono (h _ _ _ _ hC) ?_
  rintro e a' w' ⟨s', Γ', ⟨he, id, _, hr, hid, rfl⟩, hC'⟩
  obtain ⟨v, h1, h2, h3⟩ := res_ok (P := P) (fn := fn) hC' hr
  rename_i o
  have hpost : a'.defers = [] ∧ ∃ v, (results fn a'.tmps).run P w' = Result.ok v w' ∧ ∃ v_1 Γ', Ending.returned v = .returned v_1 ∧ MV Γ' (ofH [(d', o)]) w' (vo d') v_1 ∧ HeapOk Γ' (ofH [(d', o)]) w' ∧ GOk ⟨w, prOf Γ (ofH [(d, o0)]) w, Γ.I, Γ.ρ, Γ.η, []⟩ Γ' (ofH [(d', o)]) w' ∧ Agree (fun id => ofH [(d', o)] id ≠ none ∧ ofH [(d, o0)] id = none) Γ Γ' := by
    let Γ2 : Ctx := ⟨Γ'.I, fun j => bif Nat.beq j d' then Γ'.ρ id else Γ.ρ j, fun j => bif Nat.beq j d' then Γ'.η id else Γ.η j⟩
    have er2 : Γ2.ρ d' = Γ'.ρ id := by show (bif Nat.beq d' d' then _ else _) = _; rw [Nat.beq_refl]; rfl
    have ee2 : Γ2.η d' = Γ'.η id := by show (bif Nat.beq d' d' then _ else _) = _; rw [Nat.beq_refl]; rfl
    have hfp2 : ∀ b, fp Γ2 d' o b → fp Γ' id o b := fun b hb => by
      unfold fp at hb ⊢
      rw [er2, ee2] at hb
      exact hb
    have hg' := hC'.g
    rw [hpr] at hg'
    refine ⟨hC'.defers, v, h1, v, Γ2, rfl, ?_, ⟨fun j o' hj => ?_, fun j o' b hj hb => ?_, fun j o1 j' o2 b hj hj' _ _ => ?_, hC'.heap.ilt, hC'.heap.glob⟩,
      ⟨hg'.os, hg'.tape, hg'.output, hg'.size, hg'.prlt, hg'.keep, hg'.sub, hg'.bak, fun j o' b hj hb => ?_⟩, fun j hj => ?_⟩
    · have h2' : v = Γ'.η id ∧ v.oneCell' = true := h2
      exact ⟨h2'.1.trans ee2.symm, h2'.2⟩
    · obtain ⟨rfl, rfl⟩ := ofH_one.1 hj
      exact grow_mo hg er2 ee2 rfl (hC'.heap.objs id _ hid)
    · obtain ⟨rfl, rfl⟩ := ofH_one.1 hj
      exact hC'.heap.lt id _ b hid (hfp2 b hb)
    · obtain ⟨rfl, _⟩ := ofH_one.1 hj
      obtain ⟨rfl, _⟩ := ofH_one.1 hj'
      rfl
    · obtain ⟨rfl, rfl⟩ := ofH_one.1 hj
      exact hg'.own id _ b hid (hfp2 b hb)
    · have hne : j ≠ d' := fun e => hj ⟨by subst e; rw [ofH_one.2 ⟨rfl, rfl⟩]; simp, by
        subst e
        cases q : ofH [(d, o0)] j with
        | none => rfl
        | some o' =>
          obtain ⟨q1, _⟩ := ofH_one.1 q
          rw [q1, Nat.beq_refl] at hd
          cases hd⟩
      refine ⟨?_, ?_⟩
      · show (bif Nat.beq j d' then _ else _) = _; rw [beq_false hne]; rfl
      · show (bif Nat.beq j d' then _ else _) = _; rw [beq_false hne]; rfl
  rcases he with rfl | rfl
  · exact hpost
  · exact hpost
def RetT (P : Program) (fn : Func) (rs : List TV) (o : AObj) (e : Exit) (s : AS) : Prop :=
  (e = .ret ∨ e = .normal) ∧ ∃ id o' r, evRes P fn s = some r ∧ r = .tup (.c (.own id) :: rs) ∧ s.obj id = some o' ∧ o' = o
theorem OwnT.of_body {P : Program} {f : FuncId} {fn : Func} {c : Code} {args : List TV} {rs : List TV} {o : AObj} {n : Nat} (hf : P.funcs[f]? = some fn) (hb : fn.body = some c) (hn : (fn.name == "runtime.NumGoroutine") = false)
    (hnt : fn.ntmps = n) (hle : Nat.ble args.length n = true) (hg : isGrow o = true) (hrs : tvsNo rs = true) (h : AMx P (RetT P fn rs o) [.code c] .normal (AS.lst n (argRegs 0 args) [])) (d : Nat) : Spec P f args H0 (.tup (.c (.own d) :: rs)) (ofH [(d, o)]) := by
  refine ⟨⟨fn, hf, by rw [hb]; rfl, hn⟩, fun Γ w cargs hh hm => ?_⟩
  refine calls_of_wp hf hb ?_
  have hC := body_start (P := P) (H := []) hnt hle hh hm
  refine wp_mono (h _ _ _ _ hC) ?_
  rintro e a' w' ⟨s', Γ', ⟨he, id, _, _, hr, rfl, hid, rfl⟩, hC'⟩
  obtain ⟨v, h1, h2, h3⟩ := res_ok (P := P) (fn := fn) hC' hr
  rename_i o
  have hpost : a'.defers = [] ∧ ∃ v, (results fn a'.tmps).run P w' = Result.ok v w' ∧ ∃ v_1 Γ', Ending.returned v = .returned v_1 ∧ MV Γ' (ofH [(d, o)]) w' (.tup (.c (.own d) :: rs)) v_1 ∧ HeapOk Γ' (ofH [(d, o)]) w' ∧ GOk ⟨w, prOf Γ (ofH []) w, Γ.I, Γ.ρ, Γ.η, []⟩ Γ' (ofH [(d, o)]) w' ∧ Agree (fun id => ofH [(d, o)] id ≠ none ∧ H0 id = none) Γ Γ' := by
    let Γ2 : Ctx := ⟨Γ'.I, fun j => bif Nat.beq j d then Γ'.ρ id else Γ.ρ j, fun j => bif Nat.beq j d then Γ'.η id else Γ.η j⟩
    have er : Γ2.ρ d = Γ'.ρ id := by show (bif Nat.beq d d then _ else _) = _; rw [Nat.beq_refl]; rfl
    have ee : Γ2.η d = Γ'.η id := by show (bif Nat.beq d d then _ else _) = _; rw [Nat.beq_refl]; rfl
    have hx : Ext (fun _ => True) Γ' w' Γ2 w' := ⟨fun b hb => hb, fun b hb => rfl, fun id h => absurd trivial h⟩
    have hfp : ∀ b, fp Γ2 d o b → fp Γ' id o b := fun b hb => by
      unfold fp at hb ⊢
      rw [er, ee] at hb
      exact hb
    refine ⟨hC'.defers, v, h1, v, Γ2, rfl, ?_, ⟨fun j o' hj => ?_, fun j o' b hj hb => ?_, fun j o1 j' o2 b hj hj' _ _ => ?_, hC'.heap.ilt, hC'.heap.glob⟩,
      ⟨hC'.g.os, hC'.g.tape, hC'.g.output, hC'.g.size, hC'.g.prlt, hC'.g.keep, hC'.g.sub, hC'.g.bak, fun j o' b hj hb => ?_⟩, fun j hj => ?_⟩
    · obtain ⟨vs, e1, e2⟩ := h2
      refine ⟨vs, e1, ?_⟩
      revert e2
      cases hvs : vs.toList with
      | nil => intro h; exact h.elim
      | cons x l =>
        intro h
        refine ⟨?_, MTs.ext hx (tvsNo_has rs hrs) h.2⟩
        have h2' : x = Γ'.η id ∧ x.oneCell' = true := h.1
        exact ⟨h2'.1.trans ee.symm, h2'.2⟩
    · obtain ⟨rfl, rfl⟩ := ofH_one.1 hj
      exact grow_mo hg er ee rfl (hC'.heap.objs id _ hid)
    · obtain ⟨rfl, rfl⟩ := ofH_one.1 hj
      exact hC'.heap.lt id _ b hid (hfp b hb)
    · obtain ⟨rfl, _⟩ := ofH_one.1 hj
      obtain ⟨rfl, _⟩ := ofH_one.1 hj'
      rfl
    · obtain ⟨rfl, rfl⟩ := ofH_one.1 hj
      exact hC'.g.own id _ b hid (hfp b hb)
    · have : j ≠ d := fun e => hj ⟨by subst e; rw [ofH_one.2 ⟨rfl, rfl⟩]; simp, rfl⟩
      refine ⟨?_, ?_⟩
      · show (bif Nat.beq j d then _ else _) = _; rw [beq_false this]; rfl
      · show (bif Nat.beq j d then _ else _) = _; rw [beq_false this]; rfl
  rcases he with rfl | rfl
  · exact hpost
  · exact hpost
def RetI (P : Program) (fn : Func) (D : Nat) (o : AObj) (e : Exit) (s : AS) : Prop :=
  (e = .ret ∨ e = .normal) ∧ ∃ o', evRes P fn s = some (.tup []) ∧ s.obj D = some o' ∧ o' = o ∧ Nat.ble s.n D = true
theorem InPl.of_body {P : Program} {f : FuncId} {fn : Func} {c : Code} {rest : List TV} {n D : Nat} {o0 o : AObj} (hf : P.funcs[f]? = some fn) (hb : fn.body = some c) (hn : (fn.name == "runtime.NumGoroutine") = false)
    (hnt : fn.ntmps = n) (hle : Nat.ble (rest.length + 1) n = true) (hr : tvsNo rest = true) (h0 : isGrow o0 = true) (hg : isGrow o = true)
    (h : AMx P (RetI P fn D o) [.code c] .normal (AS.lst n (argRegs 0 (.c (.own D) :: rest)) [(D, o0)])) (d : Nat) :
    Spec P f (.c (.own d) :: rest) (ofH [(d, o0)]) (.tup []) (ofH [(d, o)]) := by
  refine ⟨⟨fn, hf, by rw [hb]; rfl, hn⟩, fun Γ w cargs hh hm => ?_⟩
  refine calls_of_wp hf hb ?_
  let Γ1 : Ctx := ⟨Γ.I, fun j => bif Nat.beq j D then Γ.ρ d else Γ.ρ j, fun j => bif Nat.beq j D then Γ.η d else Γ.η j⟩
  have er : Γ1.ρ D = Γ.ρ d := by show (bif Nat.beq D D then _ else _) = _; rw [Nat.beq_refl]; rfl
  have ee : Γ1.η D = Γ.η d := by show (bif Nat.beq D D then _ else _) = _; rw [Nat.beq_refl]; rfl
  have hx1 : Ext (fun _ => True) Γ w Γ1 w := ⟨fun b hb => hb, fun b hb => rfl, fun id h => absurd trivial h⟩
  have hfp : ∀ o b, fp Γ1 D o b ↔ fp Γ d o b := fun o b => by unfold fp; rw [er, ee]
  have hh1 : HeapOk Γ1 (ofH [(D, o0)]) w := by
    refine ⟨fun j o hj => ?_, fun j o b hj hb => ?_, fun j o j' o' b hj hj' _ _ => ?_, hh.ilt, hh.glob⟩
    · obtain ⟨rfl, rfl⟩ := ofH_one.1 hj
      exact grow_mo h0 er ee rfl (hh.objs d _ (ofH_one.2 ⟨rfl, rfl⟩))
    · obtain ⟨rfl, rfl⟩ := ofH_one.1 hj
      exact hh.lt d _ b (ofH_one.2 ⟨rfl, rfl⟩) ((hfp _ _).1 hb)
    · obtain ⟨rfl, _⟩ := ofH_one.1 hj
      obtain ⟨rfl, _⟩ := ofH_one.1 hj'
      rfl
  have hm1 : MTs Γ1 w (.c (.own D) :: rest) cargs.toList := by
    revert hm
    cases cargs.toList with
    | nil => intro h; exact h.elim
    | cons v l =>
      intro h
      refine ⟨?_, MTs.ext hx1 (tvsNo_has rest hr) h.2⟩
      have h0 : v = Γ.η d ∧ v.oneCell' = true := h.1
      exact ⟨h0.1.trans ee.symm, h0.2⟩
  have hpr : prOf Γ1 (ofH [(D, o0)]) w = prOf Γ (ofH [(d, o0)]) w := by
    funext b
    apply propext
    constructor
    · rintro ⟨h1, h2⟩
      refine ⟨h1, fun j o hj hb => ?_⟩
      obtain ⟨rfl, rfl⟩ := ofH_one.1 hj
      exact h2 D _ (ofH_one.2 ⟨rfl, rfl⟩) ((hfp _ _).2 hb)
    · rintro ⟨h1, h2⟩
      refine ⟨h1, fun j o hj hb => ?_⟩
      obtain ⟨rfl, rfl⟩ := ofH_one.1 hj
      exact h2 d _ (ofH_one.2 ⟨rfl, rfl⟩) ((hfp _ _).1 hb)
  have hC := body_start (P := P) (H := [(D, o0)]) hnt (by exact hle) hh1 hm1
  refine wp_mono (h _ _ _ _ hC) ?_
  rintro e a' w' ⟨s', Γ', ⟨he, _, hr, hid, rfl, hsn⟩, hC'⟩
  obtain ⟨v, h1, h2, h3⟩ := res_ok (P := P) (fn := fn) hC' hr
  rename_i o
  have hpost : a'.defers = [] ∧ ∃ v, (results fn a'.tmps).run P w' = Result.ok v w' ∧ ∃ v_1 Γ', Ending.returned v = .returned v_1 ∧ MV Γ' (ofH [(d, o)]) w' (.tup []) v_1 ∧ HeapOk Γ' (ofH [(d, o)]) w' ∧ GOk ⟨w, prOf Γ (ofH [(d, o0)]) w, Γ.I, Γ.ρ, Γ.η, []⟩ Γ' (ofH [(d, o)]) w' ∧ Agree (fun id => ofH [(d, o)] id ≠ none ∧ ofH [(d, o0)] id = none) Γ Γ' := by
    let Γ2 : Ctx := ⟨Γ'.I, Γ.ρ, Γ.η⟩
    have eD := hC'.ids D (Nat.le_of_ble_eq_true hsn)
    have er2 : Γ2.ρ d = Γ'.ρ D := (eD.1.trans er).symm
    have ee2 : Γ2.η d = Γ'.η D := (eD.2.trans ee).symm
    have hfp2 : ∀ b, fp Γ2 d o b → fp Γ' D o b := fun b hb => by
      unfold fp at hb ⊢
      rw [er2, ee2] at hb
      exact hb
    have hg' := hC'.g
    rw [hpr] at hg'
    refine ⟨hC'.defers, v, h1, v, Γ2, rfl, ?_, ⟨fun j o' hj => ?_, fun j o' b hj hb => ?_, fun j o1 j' o2 b hj hj' _ _ => ?_, hC'.heap.ilt, hC'.heap.glob⟩,
      ⟨hg'.os, hg'.tape, hg'.output, hg'.size, hg'.prlt, hg'.keep, hg'.sub, hg'.bak, fun j o' b hj hb => ?_⟩, fun j hj => ⟨rfl, rfl⟩⟩
    · obtain ⟨vs, e1, e2⟩ := h2
      refine ⟨vs, e1, ?_⟩
      revert e2
      cases vs.toList with
      | nil => exact fun _ => trivial
      | cons x l => exact fun h => h.elim
    · obtain ⟨rfl, rfl⟩ := ofH_one.1 hj
      exact grow_mo hg er2 ee2 rfl (hC'.heap.objs D _ hid)
    · obtain ⟨rfl, rfl⟩ := ofH_one.1 hj
      exact hC'.heap.lt D _ b hid (hfp2 b hb)
    · obtain ⟨rfl, _⟩ := ofH_one.1 hj
      obtain ⟨rfl, _⟩ := ofH_one.1 hj'
      rfl
    · obtain ⟨rfl, rfl⟩ := ofH_one.1 hj
      exact hg'.own D _ b hid (hfp2 b hb)
  rcases he with rfl | rfl
  · exact hpost
  · exact hpost
end AL
namespace AL.Fnv
open Go AL
set_option linter.unusedVariables false
set_option linter.unusedSimpArgs false
theorem take_succ {α : Type} (d : α) (l : List α) (k : Nat) (h : k < l.length) : List.take (k + 1) l = List.take k l ++ [List.getD l k d] := by
  rw [List.take_succ_eq_append_getElem h]; simp [List.getD, List.getElem?_eq_getElem h]
def rowS (s : Bytes) (_ : Nat) : SC := st s
abbrev slS (l : List Bytes) : SC := .sl 1 Bytes [] rowS l
end AL.Fnv
namespace AL.Lib
open Go AL
set_option linter.unusedVariables false
set_option linter.unusedSimpArgs false
variable {α : Type}
theorem getD_lt (d : α) (l : List α) (k : Nat) (h : k < l.length) : List.getD l k d = l[k] := by simp [List.getD, List.getElem?_eq_getElem h]
theorem getD_mem (d : α) (l : List α) (k : Nat) (h : k < l.length) : List.getD l k d ∈ l := by rw [getD_lt d l k h]; exact List.getElem_mem h
theorem take_succ (d : α) (l : List α) (k : Nat) (h : k < l.length) : List.take (k + 1) l = List.take k l ++ [List.getD l k d] := Fnv.take_succ d l k h
theorem drop_cons (d : α) (l : List α) (k : Nat) (h : k < l.length) : List.drop k l = List.getD l k d :: List.drop (k + 1) l := by
  rw [List.drop_eq_getElem_cons h, getD_lt d l k h]
theorem take_cons (d : α) (l : List α) (k : Nat) (h : k < l.length) : l = List.take k l ++ List.getD l k d :: List.drop (k + 1) l := by
  rw [← drop_cons d l k h, List.take_append_drop]
def idxS (p : α → Bool) : List α → Int
  | [] => -1
  | x :: l => if p x then 0 else if idxS p l < 0 then -1 else idxS p l + 1
theorem idx_range (p : α → Bool) (l : List α) : -1 ≤ idxS p l ∧ idxS p l < l.length ∨ idxS p l = -1 := by
  induction l with
  | nil => right; rfl
  | cons x l ih =>
    unfold idxS
    split
    · left; simp
    · split
      · right; rfl
      · rw [List.length_cons]; left; omega
theorem idx_lt (p : α → Bool) (l : List α) : idxS p l < l.length := by
  rcases idx_range p l with h | h <;> omega
theorem idx_ge (p : α → Bool) (l : List α) : -1 ≤ idxS p l := by
  rcases idx_range p l with h | h <;> omega
theorem idx_none {p : α → Bool} {l : List α} (h : ∀ x ∈ l, p x = false) : idxS p l = -1 := by
  induction l with
  | nil => rfl
  | cons x l ih =>
    unfold idxS
    rw [if_neg (by simp [h x]), ih fun y hy => h y (List.mem_cons_of_mem _ hy)]
    rfl
theorem idx_app {p : α → Bool} {x : α} {m : List α} : ∀ {l : List α}, (∀ y ∈ l, p y = false) → p x = true → idxS p (l ++ x :: m) = l.length
  | [], _, hx => by simp [idxS, hx]
  | y :: l, h, hx => by
    rw [List.cons_append]
    unfold idxS
    rw [if_neg (by simp [h y]), idx_app (fun z hz => h z (List.mem_cons_of_mem _ hz)) hx]
    rw [if_neg (by omega)]
    simp
theorem idx_hit {p : α → Bool} (d : α) (l : List α) (k : Nat) (hk : k < l.length) (h : ∀ x ∈ List.take k l, p x = false) (hx : p (List.getD l k d) = true) : idxS p l = k := by
  have := idx_app (m := List.drop (k + 1) l) h hx
  rw [← take_cons d l k hk, List.length_take] at this
  rw [this]; congr 1; omega
theorem idx_neg {p : α → Bool} {l : List α} (h : idxS p l < 0) : ∀ x ∈ l, p x = false := by
  induction l with
  | nil => intro x hx; cases hx
  | cons y l ih =>
    unfold idxS at h
    split at h
    · omega
    · rename_i hy
      split at h
      · intro x hx
        rcases List.mem_cons.1 hx with rfl | hx
        · simpa using hy
        · exact ih (by omega) x hx
      · omega
theorem idx_pos {p : α → Bool} (d : α) {l : List α} (h : 0 ≤ idxS p l) : p (List.getD l (idxS p l).toNat d) = true ∧ ∀ x ∈ List.take (idxS p l).toNat l, p x = false := by
  induction l with
  | nil => simp [idxS] at h
  | cons y l ih =>
    unfold idxS at h ⊢
    split
    · rename_i hy; exact ⟨by simpa using hy, fun x hx => by simp at hx⟩
    · rename_i hy
      rw [if_neg hy] at h
      split
      · rename_i hn; rw [if_pos hn] at h; omega
      · rename_i hn
        obtain ⟨h1, h2⟩ := ih (by omega)
        have e : (idxS p l + 1).toNat = (idxS p l).toNat + 1 := by omega
        rw [e]
        refine ⟨by simpa using h1, fun x hx => ?_⟩
        rw [List.take_succ_cons] at hx
        rcases List.mem_cons.1 hx with rfl | hx
        · simpa using hy
        · exact h2 x hx
theorem all_step {p : α → Bool} (d : α) (l : List α) (k : Nat) (hk : k < l.length) (h : ∀ x ∈ List.take k l, p x = false) (hx : p (List.getD l k d) = false) : ∀ x ∈ List.take (k + 1) l, p x = false := by
  intro x hm
  rw [take_succ d l k hk] at hm
  rcases List.mem_append.1 hm with h1 | h1
  · exact h x h1
  · rw [List.mem_singleton.1 h1]; exact hx
theorem same_step (d : α) (a b : List α) (k : Nat) (ha : k < a.length) (hb : k < b.length) (h : List.take k a = List.take k b) (hx : List.getD a k d = List.getD b k d) : List.take (k + 1) a = List.take (k + 1) b := by
  rw [take_succ d a k ha, take_succ d b k hb, h, hx]
theorem same_end (a b : List α) (k : Nat) (hl : a.length = b.length) (hk : a.length ≤ k) (h : List.take k a = List.take k b) : a = b := by
  rwa [List.take_of_length_le hk, List.take_of_length_le (by omega)] at h
theorem flat_step (d : List α) (ls : List (List α)) (k : Nat) (hk : k < ls.length) : (List.take k ls).flatten ++ List.getD ls k d = (List.take (k + 1) ls).flatten := by
  rw [take_succ d ls k hk]; simp
theorem flat_len (ls : List (List α)) (k : Nat) (hk : k < ls.length) : (List.take (k + 1) ls).flatten.length = (List.take k ls).flatten.length + (List.getD ls k []).length := by
  rw [← flat_step [] ls k hk, List.length_append]
theorem flat_le (ls : List (List α)) (k : Nat) : (List.take k ls).flatten.length ≤ ls.flatten.length := by
  conv => rhs; rw [← List.take_append_drop k ls]
  rw [List.flatten_append, List.length_append]; omega
theorem flat_all (ls : List (List α)) (k : Nat) (h : ls.length ≤ k) : (List.take k ls).flatten = ls.flatten := by rw [List.take_of_length_le h]
theorem half {i j : Nat} (h : i + j < 9223372036854775808) : Int.fdiv (IntKind.wrap .u64 ((i : Int) + (j : Int))) (2 ^ (min (1 : Int).toNat (IntKind.bits .u64))) = (((i + j) / 2 : Nat) : Int) := by
  rw [show (2 : Int) ^ (min (1 : Int).toNat (IntKind.bits .u64)) = ((2 : Nat) : Int) by decide +kernel]
  have h1 : IntKind.wrap .u64 ((i : Int) + (j : Int)) = ((i + j : Nat) : Int) := by
    simp [IntKind.wrap, IntKind.signed, IntKind.bits]; omega
  rw [h1, Int.fdiv_eq_ediv_of_nonneg _ (by omega)]
  rfl
def leadS (p : α → Bool) (l : List α) : Nat := (l.takeWhile p).length
theorem lead_eq {p : α → Bool} (l : List α) (k : Nat) (hk : k ≤ l.length) (h1 : ∀ x ∈ List.take k l, p x = true) (h2 : ∀ x ∈ List.drop k l, p x = false) : leadS p l = k := by
  unfold leadS
  induction l generalizing k with
  | nil => simp at hk ⊢; omega
  | cons y l ih =>
    cases k with
    | zero => rw [List.takeWhile_cons, if_neg (by simp [h2 y])]; rfl
    | succ k =>
      rw [List.takeWhile_cons, if_pos (h1 y (by simp)), List.length_cons, ih k (by simpa using hk) (fun x hx => h1 x (by simp [hx])) (fun x hx => h2 x (by simpa using hx))]
theorem takeWhile_all {p : α → Bool} {x : α} : ∀ {l : List α}, x ∈ l.takeWhile p → p x = true
  | [], h => by cases h
  | y :: l, h => by
    rw [List.takeWhile_cons] at h
    split at h
    · rcases List.mem_cons.1 h with e | h
      · rw [e]; assumption
      · exact takeWhile_all h
    · cases h
theorem lead_le (p : α → Bool) (l : List α) : leadS p l ≤ l.length := (List.takeWhile_prefix p).length_le
def Ahead (p : α → Bool) (l : List α) : Prop := l.Pairwise fun x y => p y = true → p x = true
theorem ahead_lo {p : α → Bool} (d : α) {l : List α} (ha : Ahead p l) (k : Nat) (hk : k < l.length) (h : p (List.getD l k d) = true) : ∀ x ∈ List.take (k + 1) l, p x = true := by
  intro x hx
  rw [take_succ d l k hk] at hx
  rcases List.mem_append.1 hx with hx | hx
  · unfold Ahead at ha
    rw [take_cons d l k hk] at ha
    exact (List.pairwise_append.1 ha).2.2 x hx _ (List.mem_cons_self ..) h
  · rw [List.mem_singleton.1 hx]; exact h
theorem ahead_hi {p : α → Bool} (d : α) {l : List α} (ha : Ahead p l) (k : Nat) (hk : k < l.length) (h : p (List.getD l k d) = false) : ∀ x ∈ List.drop k l, p x = false := by
  intro x hx
  rw [drop_cons d l k hk] at hx
  rcases List.mem_cons.1 hx with rfl | hx
  · exact h
  · unfold Ahead at ha
    rw [take_cons d l k hk] at ha
    have := (List.pairwise_cons.1 (List.pairwise_append.1 ha).2.1).1 x hx
    cases hp : p x with
    | false => rfl
    | true => rw [this hp] at h; cases h
end AL.Lib
namespace AL.Rune
open Go AL
set_option linter.unusedVariables false
set_option linter.unusedSimpArgs false
theorem get_ba (s : Bytes) (i : Nat) : (ba s).get! i = List.getD s i 0 := by
  show (s.toArray)[i]! = _
  rw [List.getD_eq_getElem?_getD]
  by_cases h : i < s.length
  · rw [getElem!_pos _ i (by simpa using h)]; simp [h]
  · rw [getElem!_neg _ i (by simpa using h)]; simp [h]; rfl
theorem dec_N (s : Bytes) (pos : Nat) : decS s pos = Go.Lib.decodeN (s.length - pos) (List.getD s pos 0).toNat (List.getD s (pos + 1) 0).toNat (List.getD s (pos + 2) 0).toNat (List.getD s (pos + 3) 0).toNat := by
  unfold decS
  rw [Go.Lib.decode_at, get_ba, get_ba, get_ba, get_ba, size_ba]
theorem getD_drop (s : Bytes) (i j : Nat) : List.getD (List.drop i s) j 0 = List.getD s (i + j) 0 := by
  rw [List.getD_eq_getElem?_getD, List.getD_eq_getElem?_getD, List.getElem?_drop]
theorem dec_drop (s : Bytes) (pos : Nat) : decS s pos = decS (List.drop pos s) 0 := by
  rw [dec_N, dec_N, getD_drop, getD_drop, getD_drop, getD_drop, List.length_drop]; simp
theorem dec_L (s : Bytes) : decS s 0 = Go.Lib.decodeL s := rfl
theorem dec_ok {s : Bytes} {pos : Nat} (h : pos < s.length) : 1 ≤ (decS s pos).2 ∧ pos + (decS s pos).2 ≤ s.length := by
  rw [dec_drop, dec_L]
  have h1 := Go.Lib.decodeL_width (List.drop pos s)
  have h2 := Go.Lib.decodeL_le (List.drop pos s) (by intro e; have := congrArg List.length e; simp at this; omega)
  rw [List.length_drop] at h2
  omega
theorem byte_lt (s : Bytes) (i : Nat) : (List.getD s i 0).toNat < 256 := UInt8.toNat_lt _
abbrev R := Nat × Bytes
def runesN : Nat → Bytes → List R
  | 0, _ => []
  | n + 1, s => if s = [] then [] else ((decS s 0).1, List.take (decS s 0).2 s) :: runesN n (List.drop (decS s 0).2 s)
def runesS (s : Bytes) : List R := runesN s.length s
theorem runesN_any : ∀ (n m : Nat) (s : Bytes), s.length ≤ n → s.length ≤ m → runesN n s = runesN m s
  | 0, 0, _, _, _ => rfl
  | 0, m + 1, s, h, _ => by
    have : s = [] := List.eq_nil_of_length_eq_zero (by omega)
    subst this; rfl
  | n + 1, 0, s, _, h => by
    have : s = [] := List.eq_nil_of_length_eq_zero (by omega)
    subst this; rfl
  | n + 1, m + 1, s, h1, h2 => by
    unfold runesN
    split
    · rfl
    · rename_i hs
      have hd := dec_ok (s := s) (pos := 0) (List.length_pos_iff.2 hs)
      rw [runesN_any n m _ (by rw [List.length_drop]; omega) (by rw [List.length_drop]; omega)]
theorem runes_cons {s : Bytes} (hs : s ≠ []) : runesS s = ((decS s 0).1, List.take (decS s 0).2 s) :: runesS (List.drop (decS s 0).2 s) := by
  have hl := List.length_pos_iff.2 hs
  have hd := dec_ok (s := s) (pos := 0) hl
  unfold runesS
  obtain ⟨n, hn⟩ : ∃ n, s.length = n + 1 := ⟨s.length - 1, by omega⟩
  rw [hn]
  conv => lhs; unfold runesN
  rw [if_neg hs, runesN_any n (List.drop (decS s 0).2 s).length _ (by rw [List.length_drop]; omega) (Nat.le_refl _)]
theorem runes_at {s : Bytes} {pos : Nat} (h : pos < s.length) : runesS (List.drop pos s) = ((decS s pos).1, List.take (decS s pos).2 (List.drop pos s)) :: runesS (List.drop (pos + (decS s pos).2) s) := by
  have hne : List.drop pos s ≠ [] := by intro e; have := congrArg List.length e; simp at this; omega
  rw [runes_cons hne, ← dec_drop, List.drop_drop]
theorem runes_end {s : Bytes} {pos : Nat} (h : s.length ≤ pos) : runesS (List.drop pos s) = [] := by rw [List.drop_of_length_le h]; rfl
theorem runes_ind {p : Bytes → Prop} (h0 : p []) (h1 : ∀ s, s ≠ [] → p (List.drop (decS s 0).2 s) → p s) : ∀ s, p s := by
  have : ∀ n (s : Bytes), s.length ≤ n → p s := by
    intro n
    induction n with
    | zero => intro s h; have : s = [] := List.eq_nil_of_length_eq_zero (by omega); subst this; exact h0
    | succ n ih =>
      intro s h
      by_cases hs : s = []
      · subst hs; exact h0
      · have hd := dec_ok (s := s) (pos := 0) (List.length_pos_iff.2 hs)
        exact h1 s hs (ih _ (by rw [List.length_drop]; omega))
  exact fun s => this s.length s (Nat.le_refl _)
theorem runes_len (s : Bytes) : (runesS s).length ≤ s.length := by
  refine runes_ind (p := fun s => (runesS s).length ≤ s.length) (Nat.le_refl _) (fun s hs ih => ?_) s
  rw [runes_cons hs, List.length_cons]
  have hd := dec_ok (s := s) (pos := 0) (List.length_pos_iff.2 hs)
  rw [List.length_drop] at ih
  omega
def piecesS : Bytes → List Bytes
  | [] => [[]]
  | b :: s => if b = 47 then [] :: piecesS s else match piecesS s with
    | [] => [[b]]
    | p :: ps => (b :: p) :: ps
def joinS : List Bytes → Bytes
  | [] => []
  | [p] => p
  | p :: q :: l => p ++ 47 :: joinS (q :: l)
theorem pieces_ne (s : Bytes) : piecesS s ≠ [] := by
  cases s with
  | nil => simp [piecesS]
  | cons b s =>
    unfold piecesS
    split
    · simp
    · split <;> simp
theorem pieces_none : ∀ {a : Bytes}, (47 : UInt8) ∉ a → piecesS a = [a]
  | [], _ => rfl
  | b :: a, h => by
    simp only [List.mem_cons, not_or] at h
    unfold piecesS
    rw [if_neg (fun e => h.1 e.symm), pieces_none h.2]
theorem pieces_app : ∀ {a : Bytes} (s : Bytes), (47 : UInt8) ∉ a → piecesS (a ++ 47 :: s) = a :: piecesS s
  | [], s, _ => by simp [piecesS]
  | b :: a, s, h => by
    simp only [List.mem_cons, not_or] at h
    rw [List.cons_append, piecesS, if_neg (fun e => h.1 e.symm), pieces_app s h.2]
theorem pieces_len (s : Bytes) : (piecesS s).length = s.count 47 + 1 := by
  induction s with
  | nil => rfl
  | cons b s ih =>
    unfold piecesS
    by_cases e : b = 47
    · subst e; rw [if_pos rfl, List.length_cons, ih, List.count_cons_self]
    · rw [if_neg e, List.count_cons_of_ne e]
      cases hp : piecesS s with
      | nil => exact absurd hp (pieces_ne s)
      | cons p ps => rw [hp] at ih; simpa using ih
theorem join_pieces (s : Bytes) : joinS (piecesS s) = s := by
  induction s with
  | nil => rfl
  | cons b s ih =>
    unfold piecesS
    split
    · rename_i e
      subst e
      cases hp : piecesS s with
      | nil => exact absurd hp (pieces_ne s)
      | cons p ps => rw [hp] at ih; show [] ++ 47 :: joinS (p :: ps) = _; rw [ih]; rfl
    · split
      · rename_i hp; exact absurd hp (pieces_ne s)
      · rename_i p ps hp
        rw [hp] at ih
        cases ps with
        | nil => show b :: p = _; rw [show p = s from ih]
        | cons q ps => show (b :: p) ++ 47 :: joinS (q :: ps) = _; rw [← ih]; rfl
theorem pieces_one {s : Bytes} : (piecesS s).length = 1 ↔ (47 : UInt8) ∉ s := by
  rw [pieces_len, ← List.count_eq_zero]; omega
theorem index_none {s : Bytes} (h : Go.Lib.indexByte s 47 < 0) : (47 : UInt8) ∉ s := by
  induction s with
  | nil => simp
  | cons b s ih =>
    unfold Go.Lib.indexByte at h
    split at h
    · omega
    · rename_i hb
      have hg := Go.Lib.indexByte_ge s 47
      simp only [List.mem_cons, not_or]
      refine ⟨fun e => hb (by simp [e]), ih ?_⟩
      split at h
      · rename_i h1; simp only [beq_iff_eq] at h1; omega
      · omega
theorem index_some {s : Bytes} (h : 0 ≤ Go.Lib.indexByte s 47) : (Go.Lib.indexByte s 47).toNat < s.length ∧ (47 : UInt8) ∉ List.take (Go.Lib.indexByte s 47).toNat s ∧ s = List.take (Go.Lib.indexByte s 47).toNat s ++ 47 :: List.drop ((Go.Lib.indexByte s 47).toNat + 1) s := by
  induction s with
  | nil => simp [Go.Lib.indexByte] at h
  | cons b s ih =>
    unfold Go.Lib.indexByte at h ⊢
    by_cases hb : b = 47
    · subst hb; simp
    · have e1 : (b == (47 : UInt8)) = false := by simpa using hb
      rw [e1] at h ⊢
      simp only [Bool.false_eq_true, if_false] at h ⊢
      have hg := Go.Lib.indexByte_ge s 47
      by_cases h1 : Go.Lib.indexByte s 47 = -1
      · rw [h1] at h; simp at h
      · rw [if_neg (by simpa using h1)] at h ⊢
        obtain ⟨i1, i2, i3⟩ := ih (by omega)
        have e : (Go.Lib.indexByte s 47 + 1).toNat = (Go.Lib.indexByte s 47).toNat + 1 := by omega
        rw [e]
        refine ⟨by simp only [List.length_cons]; omega, ?_, ?_⟩
        · simp only [List.take_succ_cons, List.mem_cons, not_or]; exact ⟨fun q => hb q.symm, i2⟩
        · simp only [List.take_succ_cons, List.drop_succ_cons, List.cons_append]
          rw [← i3]
end AL.Rune
namespace AL.Route
open Go AL AL.Rune
set_option linter.unusedVariables false
set_option linter.unusedSimpArgs false
def runeOk (c : Int) : Bool :=
  (decide (97 ≤ c) && decide (c ≤ 122)) || (decide (65 ≤ c) && decide (c ≤ 90)) || (decide (48 ≤ c) && decide (c ≤ 57)) || decide (c = 45) || decide (c = 46) || decide (c = 95) || (decide (192 ≤ c) && decide (c ≤ 55295))
def okR (x : R) : Bool := runeOk (x.1 : Int)
def partS (s : Bytes) : Int :=
  if s = [] ∨ s = [46] ∨ s = [46, 46] ∨ s = [45] then 4 else if (runesS s).all okR = false then 4 else if 12 < (runesS s).length then 5 else 0
theorem part_1 {s : Bytes} (h : s = [] ∨ s = [46] ∨ s = [46, 46] ∨ s = [45]) : partS s = 4 := by unfold partS; rw [if_pos h]
theorem part_2 {s : Bytes} (h : (runesS s).all okR = false) : partS s = 4 := by unfold partS; split; rfl; rfl
theorem part_3 {s : Bytes} (h : ¬ (s = [] ∨ s = [46] ∨ s = [46, 46] ∨ s = [45])) (h2 : (runesS s).all okR = true) (h3 : 12 < (runesS s).length) : partS s = 5 := by
  unfold partS; rw [if_neg h, if_neg (by rw [h2]; decide), if_pos h3]
theorem part_4 {s : Bytes} (h : ¬ (s = [] ∨ s = [46] ∨ s = [46, 46] ∨ s = [45])) (h2 : (runesS s).all okR = true) (h3 : ¬ 12 < (runesS s).length) : partS s = 0 := by
  unfold partS; rw [if_neg h, if_neg (by rw [h2]; decide), if_neg h3]
theorem part_val (s : Bytes) : partS s = 0 ∨ partS s = 4 ∨ partS s = 5 := by
  unfold partS; split; simp; split; simp; split <;> simp
def LeftAll (s : Bytes) (pos : Nat) : Prop := (runesS s).all okR = (runesS (List.drop pos s)).all okR
theorem left_0 (s : Bytes) : LeftAll s 0 := by unfold LeftAll; rw [List.drop_zero]
theorem left_ok {s : Bytes} {pos : Nat} (h : pos < s.length) (hA : LeftAll s pos) (hc : runeOk ((decS s pos).1 : Int) = true) : LeftAll s (pos + (decS s pos).2) := by
  unfold LeftAll at *
  rw [hA, runes_at h, List.all_cons]
  show (runeOk ((decS s pos).1 : Int) && _) = _
  rw [hc, Bool.true_and]
theorem left_bad {s : Bytes} {pos : Nat} (h : pos < s.length) (hA : LeftAll s pos) (hc : runeOk ((decS s pos).1 : Int) = false) : (runesS s).all okR = false := by
  unfold LeftAll at hA
  rw [hA, runes_at h, List.all_cons]
  show (runeOk ((decS s pos).1 : Int) && _) = _
  rw [hc, Bool.false_and]
theorem left_end {s : Bytes} {pos : Nat} (h : s.length ≤ pos) (hA : LeftAll s pos) : (runesS s).all okR = true := by
  unfold LeftAll at hA
  rw [hA, runes_end h]; rfl
def LeftN (s : Bytes) (pos n : Nat) : Prop := (runesS s).length = n + (runesS (List.drop pos s)).length
theorem leftN_0 (s : Bytes) : LeftN s 0 0 := by unfold LeftN; rw [List.drop_zero]; omega
theorem leftN_step {s : Bytes} {pos n : Nat} (h : pos < s.length) (hN : LeftN s pos n) : LeftN s (pos + (decS s pos).2) (n + 1) := by
  unfold LeftN at *
  rw [hN, runes_at h, List.length_cons]; omega
theorem leftN_end {s : Bytes} {pos n : Nat} (h : s.length ≤ pos) (hN : LeftN s pos n) : (runesS s).length = n := by
  unfold LeftN at hN
  rw [hN, runes_end h]; rfl
theorem leftN_le {s : Bytes} {pos n : Nat} (hN : LeftN s pos n) : n ≤ s.length := by
  have := runes_len s
  unfold LeftN at hN; omega
def gradedS (l : List Bytes) : Int :=
  if l.any (fun p => decide (partS p = 4)) = true then 4 else if l.any (fun p => decide (partS p = 5)) = true then 5 else if 6 < l.length then 24 else 0
def checkS (s : Bytes) : Int := if 64 < s.length then 5 else gradedS (piecesS s)
def partsS (s : Bytes) : List Bytes × Int := if checkS s = 0 then (piecesS s, 0) else ([], checkS s)
theorem graded_hit {l : List Bytes} {k : Nat} (hk : k < l.length) (h : partS (List.getD l k []) = 4) : gradedS l = 4 := by
  unfold gradedS
  rw [if_pos (List.any_eq_true.2 ⟨_, AL.Lib.getD_mem [] l k hk, decide_eq_true h⟩)]
def worstS (l : List Bytes) : Int := if l.any (fun p => decide (partS p = 5)) = true then 5 else 0
theorem worst_step (l : List Bytes) (k : Nat) (hk : k < l.length) : worstS (List.take (k + 1) l) = if partS (List.getD l k []) = 5 then 5 else worstS (List.take k l) := by
  unfold worstS
  rw [AL.Lib.take_succ [] l k hk, List.any_append]
  by_cases h : partS (List.getD l k []) = 5
  · rw [if_pos h, if_pos (by simp only [List.any_cons, List.any_nil, h]; simp)]
  · rw [if_neg h]; simp only [List.any_cons, List.any_nil, decide_eq_false h, Bool.or_false]
theorem graded_end {l : List Bytes} (h : ∀ k, k < l.length → partS (List.getD l k []) ≠ 4) : gradedS l = if worstS l = 0 then (if 6 < l.length then 24 else 0) else worstS l := by
  have h0 : l.any (fun p => decide (partS p = 4)) = false := by
    rw [List.any_eq_false]
    intro p hp
    obtain ⟨i, hi, rfl⟩ := List.mem_iff_getElem.1 hp
    have := h i hi
    rw [AL.Lib.getD_lt [] l i hi] at this
    simpa using this
  unfold gradedS worstS
  rw [if_neg (by rw [h0]; decide)]
  split
  · rfl
  · rfl
theorem split_n (s : Bytes) : (min (((s.count 47 : Nat) : Int) + 1) ((List.length s : Int) + 1)).toNat = (piecesS s).length := by
  have h1 := pieces_len s
  have h2 : s.count 47 ≤ s.length := List.count_le_length
  omega
theorem split_more {c : Bytes} (h : 0 ≤ Go.Lib.indexByte c 47) : piecesS c = List.take (Go.Lib.indexByte c 47).toNat c :: piecesS (List.drop ((Go.Lib.indexByte c 47).toNat + 1) c) := by
  obtain ⟨h1, h2, h3⟩ := index_some h
  conv => lhs; rw [h3]
  rw [pieces_app _ h2]
theorem set_rep (o : List Bytes) (k : Nat) (x : Bytes) : List.set (o ++ List.replicate (k + 1) []) o.length x = (o ++ [x]) ++ List.replicate k [] := by
  rw [List.set_append_right _ _ (Nat.le_refl _), Nat.sub_self, List.replicate_succ, List.set_cons_zero, List.append_assoc]; rfl
theorem split_step {o : List Bytes} {c : Bytes} (h : 0 ≤ Go.Lib.indexByte c 47) (x : Bytes) :
    List.set (o ++ List.replicate (piecesS c).length []) o.length x = (o ++ [x]) ++ List.replicate (piecesS (List.drop ((Go.Lib.indexByte c 47).toNat + 1) c)).length [] := by
  rw [split_more h, List.length_cons, set_rep]
theorem split_inv {s c : Bytes} {o : List Bytes} (hP : piecesS s = o ++ piecesS c) (h : 0 ≤ Go.Lib.indexByte c 47) : piecesS s = (o ++ [List.take (Go.Lib.indexByte c 47).toNat c]) ++ piecesS (List.drop ((Go.Lib.indexByte c 47).toNat + 1) c) := by
  rw [hP, split_more h, List.append_assoc]; rfl
theorem split_last {s c : Bytes} {o : List Bytes} (hP : piecesS s = o ++ piecesS c) (h : ¬ (o.length : Int) < ((piecesS s).length : Int) - 1) : (47 : UInt8) ∉ c := by
  have := congrArg List.length hP
  rw [List.length_append] at this
  have h1 := pieces_len c
  exact pieces_one.1 (by omega)
theorem split_end {s c : Bytes} {o : List Bytes} (hP : piecesS s = o ++ piecesS c) (hc : (47 : UInt8) ∉ c) : List.take (o.length + 1) (List.set (o ++ List.replicate (piecesS c).length []) o.length c) = piecesS s := by
  rw [hP, pieces_none hc]
  show List.take (o.length + 1) (List.set (o ++ List.replicate (0 + 1) []) o.length c) = _
  rw [set_rep]
  rw [List.replicate_zero, List.append_nil, List.take_of_length_le (by simp)]
theorem split_le {s c : Bytes} {o : List Bytes} (hP : piecesS s = o ++ piecesS c) : o.length + (piecesS c).length = (piecesS s).length ∧ (piecesS s).length ≤ s.length + 1 ∧ 1 ≤ (piecesS c).length := by
  have h0 := congrArg List.length hP
  have h1 := pieces_len s
  have h2 : s.count 47 ≤ s.length := List.count_le_length
  have h3 := pieces_len c
  rw [List.length_append] at h0
  omega
theorem parts_2 (s : Bytes) : (partsS s).2 = checkS s := by
  unfold partsS
  split
  · rename_i h; exact h.symm
  · rfl
theorem check_big {s : Bytes} (h : 64 < s.length) : checkS s = 5 := by unfold checkS; rw [if_pos h]
theorem check_small {s : Bytes} (h : ¬ 64 < s.length) : checkS s = gradedS (piecesS s) := by unfold checkS; rw [if_neg h]
theorem parts_ok {s : Bytes} (h : checkS s = 0) : partsS s = (piecesS s, 0) := by unfold partsS; rw [if_pos h]
theorem parts_no {s : Bytes} (h : checkS s ≠ 0) : partsS s = ([], checkS s) := by unfold partsS; rw [if_neg h]
theorem piece_le {s p : Bytes} (h : p ∈ piecesS s) : p.length ≤ s.length := by
  have hj := join_pieces s
  have : ∀ (l : List Bytes), p ∈ l → p.length ≤ (joinS l).length := by
    intro l
    induction l with
    | nil => intro h; cases h
    | cons q l ih =>
      intro h
      cases l with
      | nil => rw [List.mem_singleton.1 h]; exact Nat.le_refl _
      | cons r l =>
        show p.length ≤ (q ++ 47 :: joinS (r :: l)).length
        rw [List.length_append, List.length_cons]
        rcases List.mem_cons.1 h with rfl | h
        · omega
        · have := ih h; omega
  have h2 := this _ h
  rw [hj] at h2; exact h2
end AL.Route
namespace AL.Rows
open Go AL
set_option linter.unusedVariables false
set_option linter.unusedSimpArgs false
def nameB (b : UInt8) : Bool := (decide (97 ≤ b.toNat) && decide (b.toNat ≤ 122)) || (decide (48 ≤ b.toNat) && decide (b.toNat ≤ 57))
theorem nameB_iff {b : UInt8} : nameB b = true ↔ (97 ≤ b.toNat ∧ b.toNat ≤ 122) ∨ (48 ≤ b.toNat ∧ b.toNat ≤ 57) := by
  unfold nameB
  simp only [Bool.or_eq_true, Bool.and_eq_true, decide_eq_true_eq]
def namedS (s : Bytes) : Bool := decide (1 ≤ s.length) && (decide (s.length ≤ 8) && s.all nameB)
theorem named_size {s : Bytes} (h : s = [] ∨ 8 < s.length) : namedS s = false := by
  unfold namedS
  rcases h with h | h
  · subst h; rfl
  · rw [decide_eq_false (p := s.length ≤ 8) (by omega)]; simp
def LeftNm (s : Bytes) (pos : Nat) : Prop := s.all nameB = (List.drop pos s).all nameB
theorem nm_0 (s : Bytes) : LeftNm s 0 := by unfold LeftNm; rw [List.drop_zero]
theorem nm_byte {s : Bytes} {pos : Nat} (h : pos < s.length) (hN : LeftNm s pos) (hb : nameB (List.getD s pos 0) = true) : LeftNm s (pos + 1) := by
  unfold LeftNm at *
  rw [hN, Lib.drop_cons 0 s pos h, List.all_cons, hb, Bool.true_and]
theorem nm_not {s : Bytes} {pos : Nat} (h : pos < s.length) (hb : nameB (List.getD s pos 0) = false) : namedS s = false := by
  unfold namedS
  have : s.all nameB = false := by
    rw [List.all_eq_false]
    exact ⟨_, Lib.getD_mem 0 s pos h, by rw [hb]; decide⟩
  rw [this]; simp
theorem nm_end {s : Bytes} {pos : Nat} (h : s.length ≤ pos) (hN : LeftNm s pos) (h1 : ¬ s = []) (h2 : ¬ 8 < s.length) : namedS s = true := by
  unfold LeftNm at hN
  rw [List.drop_of_length_le h] at hN
  unfold namedS
  have hl := List.length_pos_iff.2 h1
  rw [hN, decide_eq_true (by omega), decide_eq_true (by omega)]
  rfl
theorem dec_low {s : Bytes} {pos : Nat} (h : pos < s.length) (hb : (List.getD s pos 0).toNat < 128) : decS s pos = ((List.getD s pos 0).toNat, 1) := by
  rw [Rune.dec_N]
  unfold Go.Lib.decodeN
  rw [if_pos hb]
theorem dec_high {s : Bytes} {pos : Nat} (h : pos < s.length) (hb : ¬ (List.getD s pos 0).toNat < 128) : 128 ≤ (decS s pos).1 := by
  rw [Rune.dec_N]
  have q0 := Rune.byte_lt s pos
  unfold Go.Lib.decodeN
  rw [if_neg hb]
  repeat' split
  all_goals (simp only []; omega)
theorem nm_step {s : Bytes} {pos : Nat} (h : pos < s.length) (hN : LeftNm s pos) (hc : ¬ ((((decS s pos).1 : Int) < 97 ∨ 122 < ((decS s pos).1 : Int)) ∧ (((decS s pos).1 : Int) < 48 ∨ 57 < ((decS s pos).1 : Int)))) : LeftNm s (pos + (decS s pos).2) := by
  by_cases hb : (List.getD s pos 0).toNat < 128
  · rw [dec_low h hb] at hc ⊢
    refine nm_byte h hN (nameB_iff.2 ?_)
    simp only [] at hc
    omega
  · have := dec_high h hb
    omega
theorem nm_bad {s : Bytes} {pos : Nat} (h : pos < s.length) (hc : (((decS s pos).1 : Int) < 97 ∨ 122 < ((decS s pos).1 : Int)) ∧ (((decS s pos).1 : Int) < 48 ∨ 57 < ((decS s pos).1 : Int))) : namedS s = false := by
  refine nm_not h ?_
  rw [Bool.eq_false_iff]
  intro hb
  have hb := nameB_iff.1 hb
  rw [dec_low h (by omega)] at hc
  simp only [] at hc
  omega
abbrev KeyV := Int × Bytes × Int
def MayK (k : KeyV) : Prop :=
  (k.1 = 1 ∧ Route.checkS k.2.1 = 0 ∧ k.2.2 = 0) ∨ (k.1 = 2 ∧ Route.checkS k.2.1 = 0 ∧ 1 ≤ k.2.2 ∧ k.2.2 ≤ 30) ∨ (k.1 = 3 ∧ namedS k.2.1 = true ∧ k.2.2 = 0) ∨ ((k.1 = 4 ∨ k.1 = 5) ∧ k.2.1 = [] ∧ k.2.2 = 0)
instance (k : KeyV) : Decidable (MayK k) := inferInstanceAs (Decidable (_ ∨ _))
def checkK (k : KeyV) : Int := if k.1 < 1 ∨ 5 < k.1 then 22 else if MayK k then 0 else 2
theorem check_ok {k : KeyV} (h : MayK k) : checkK k = 0 := by
  unfold checkK
  rw [if_neg (by unfold MayK at h; omega), if_pos h]
theorem check_may {k : KeyV} : checkK k = 0 ↔ MayK k := by
  refine ⟨fun h => ?_, check_ok⟩
  unfold checkK at h
  split at h
  · omega
  · split at h
    · assumption
    · omega
end AL.Rows
namespace AL.Under
open Go AL
set_option linter.unusedVariables false
set_option linter.unusedSimpArgs false
abbrev slS (l : List Bytes) : SC := .sl 1 Bytes [] AL.Fnv.rowS l
def hasP (s p : Bytes) : Bool := p.isPrefixOf s
def trimP (s p : Bytes) : Bytes := if hasP s p then s.drop p.length else s
def restS (s top : Bytes) : Bytes × Bool := if top = [] then (s, !decide (s = [])) else if hasP s top then (trimP (trimP s top) [47], hasP (trimP s top) [47]) else ([], false)
def belowS (s top : Bytes) : Bool := (restS s top).2
def withinS (s top : Bytes) : Bool := decide (s = top) || belowS s top
def longS (s : Bytes) (l : List Bytes) : Nat → Int
  | 0 => -1
  | k + 1 => if withinS s (List.getD l k []) && (decide (longS s l k < 0) || decide ((List.length (List.getD l (longS s l k).toNat []) : Int) < (List.length (List.getD l k []) : Int))) then (k : Int) else longS s l k
def longestS (s : Bytes) (l : List Bytes) : Int := longS s l l.length
theorem bl (x y : Bytes) : Op.bytesLess x y = decide (x < y) := Go.Proofs.bytesLess_eq x y
def Rise (l : List Bytes) : Prop := l.Pairwise (· < ·)
theorem lt_of_not {x y : Bytes} (h1 : ¬ x < y) (h2 : x ≠ y) : y < x := by
  by_cases h : y < x
  · exact h
  · exact absurd (List.le_antisymm (List.not_lt.1 h) (List.not_lt.1 h1)) h2
theorem rise_eq : ∀ {l m : List Bytes}, Rise l → Rise m → (∀ x, x ∈ l ↔ x ∈ m) → l = m := by
  intro l
  induction l with
  | nil =>
    intro m _ _ h
    cases m with
    | nil => rfl
    | cons y m => exact absurd ((h y).2 (by simp)) (by simp)
  | cons x l ih =>
    intro m hl hm h
    cases m with
    | nil => exact absurd ((h x).1 (by simp)) (by simp)
    | cons y m =>
      obtain ⟨h1, h2⟩ := List.pairwise_cons.1 hl
      obtain ⟨h3, h4⟩ := List.pairwise_cons.1 hm
      have e : x = y := by
        have hx := (h x).1 (by simp)
        have hy := (h y).2 (by simp)
        rcases List.mem_cons.1 hx with hx | hx
        · exact hx
        · rcases List.mem_cons.1 hy with hy | hy
          · exact hy.symm
          · exact absurd (List.lt_trans (h1 y hy) (h3 x hx)) (List.lt_irrefl x)
      subst e
      congr 1
      refine ih h2 h4 fun z => ?_
      constructor
      · intro hz
        rcases List.mem_cons.1 ((h z).1 (List.mem_cons_of_mem _ hz)) with e | e
        · subst e; exact absurd (h1 z hz) (List.lt_irrefl z)
        · exact e
      · intro hz
        rcases List.mem_cons.1 ((h z).2 (List.mem_cons_of_mem _ hz)) with e | e
        · subst e; exact absurd (h3 z hz) (List.lt_irrefl z)
        · exact e
theorem long_lt (s : Bytes) (l : List Bytes) : ∀ k, -1 ≤ longS s l k ∧ longS s l k < k := by
  intro k
  induction k with
  | zero => simp [longS]
  | succ k ih => unfold longS; split <;> omega
theorem long_step (s : Bytes) (l : List Bytes) (k : Nat) : longS s l (k + 1) = if withinS s (List.getD l k []) && (decide (longS s l k < 0) || decide ((List.length (List.getD l (longS s l k).toNat []) : Int) < (List.length (List.getD l k []) : Int))) then (k : Int) else longS s l k := rfl
def sizeS (l : List Bytes) (o : Int) : Int := if o < 0 then -1 else ((List.getD l o.toNat []).length : Int)
theorem size_test (l : List Bytes) (o : Int) (n : Nat) : decide (sizeS l o < (n : Int)) = (decide (o < 0) || decide ((List.length (List.getD l o.toNat []) : Int) < (n : Int))) := by
  unfold sizeS
  by_cases h : o < 0
  · rw [if_pos h, decide_eq_true h, decide_eq_true (by omega)]; rfl
  · rw [if_neg h, decide_eq_false h, Bool.false_or]
theorem size_k (l : List Bytes) (k : Nat) : sizeS l (k : Int) = (List.length (List.getD l k []) : Int) := by
  unfold sizeS; rw [if_neg (by omega)]; rfl
theorem long_t {s : Bytes} {l : List Bytes} {k : Nat} (h1 : withinS s (List.getD l k []) = true) (h2 : sizeS l (longS s l k) < (List.length (List.getD l k []) : Int)) : longS s l (k + 1) = k := by
  have h3 := decide_eq_true h2
  rw [size_test] at h3
  rw [long_step, h1, h3]; rfl
theorem long_f {s : Bytes} {l : List Bytes} {k : Nat} (h : ¬ (sizeS l (longS s l k) < (List.length (List.getD l k []) : Int) ∧ withinS s (List.getD l k []) = true)) : longS s l (k + 1) = longS s l k := by
  rw [long_step, ← size_test, if_neg]
  intro q
  rw [Bool.and_eq_true, decide_eq_true_eq] at q
  exact h ⟨q.2, q.1⟩
end AL.Under
namespace AL.Sep
open Go AL
set_option linter.unusedVariables false
def splitC (c : UInt8) : Bytes → List Bytes
  | [] => [[]]
  | b :: s => if b = c then [] :: splitC c s else match splitC c s with
    | [] => [[b]]
    | p :: ps => (b :: p) :: ps
def joinC (c : UInt8) : List Bytes → Bytes
  | [] => []
  | [p] => p
  | p :: q :: l => p ++ c :: joinC c (q :: l)
theorem split_ne (c : UInt8) (s : Bytes) : splitC c s ≠ [] := by
  cases s with
  | nil => simp [splitC]
  | cons b s =>
    unfold splitC
    split
    · simp
    · split <;> simp
theorem split_none {c : UInt8} : ∀ {a : Bytes}, c ∉ a → splitC c a = [a]
  | [], _ => rfl
  | b :: a, h => by
    simp only [List.mem_cons, not_or] at h
    unfold splitC
    rw [if_neg (fun e => h.1 e.symm), split_none h.2]
theorem split_app {c : UInt8} : ∀ {a : Bytes} (s : Bytes), c ∉ a → splitC c (a ++ c :: s) = a :: splitC c s
  | [], s, _ => by simp [splitC]
  | b :: a, s, h => by
    simp only [List.mem_cons, not_or] at h
    rw [List.cons_append, splitC, if_neg (fun e => h.1 e.symm), split_app s h.2]
theorem split_len (c : UInt8) (s : Bytes) : (splitC c s).length = s.count c + 1 := by
  induction s with
  | nil => rfl
  | cons b s ih =>
    unfold splitC
    by_cases e : b = c
    · rw [e, if_pos rfl, List.length_cons, ih, List.count_cons_self]
    · rw [if_neg e, List.count_cons_of_ne e]
      cases hp : splitC c s with
      | nil => exact absurd hp (split_ne c s)
      | cons p ps => rw [hp] at ih; simpa using ih
theorem join_split (c : UInt8) (s : Bytes) : joinC c (splitC c s) = s := by
  induction s with
  | nil => rfl
  | cons b s ih =>
    unfold splitC
    split
    · rename_i e
      rw [e]
      cases hp : splitC c s with
      | nil => exact absurd hp (split_ne c s)
      | cons p ps => rw [hp] at ih; show [] ++ c :: joinC c (p :: ps) = _; rw [ih]; rfl
    · split
      · rename_i hp; exact absurd hp (split_ne c s)
      · rename_i p ps hp
        rw [hp] at ih
        cases ps with
        | nil => show b :: p = _; rw [show p = s from ih]
        | cons q ps => show (b :: p) ++ c :: joinC c (q :: ps) = _; rw [← ih]; rfl
theorem split_join {c : UInt8} : ∀ {l : List Bytes}, (∀ p ∈ l, c ∉ p) → l ≠ [] → splitC c (joinC c l) = l
  | [], _, h => absurd rfl h
  | [p], h, _ => split_none (h p (by simp))
  | p :: q :: l, h, _ => by
    show splitC c (p ++ c :: joinC c (q :: l)) = _
    rw [split_app _ (h p (by simp)), split_join (fun x hx => h x (List.mem_cons_of_mem _ hx)) (by simp)]
theorem split_one {c : UInt8} {s : Bytes} : (splitC c s).length = 1 ↔ c ∉ s := by
  rw [split_len, ← List.count_eq_zero]; omega
theorem index_none {c : UInt8} {s : Bytes} (h : Go.Lib.indexByte s c < 0) : c ∉ s := by
  induction s with
  | nil => simp
  | cons b s ih =>
    unfold Go.Lib.indexByte at h
    split at h
    · omega
    · rename_i hb
      have hg := Go.Lib.indexByte_ge s c
      simp only [List.mem_cons, not_or]
      refine ⟨fun e => hb (by simp [e]), ih ?_⟩
      split at h
      · rename_i h1; simp only [beq_iff_eq] at h1; omega
      · omega
theorem index_some {c : UInt8} {s : Bytes} (h : 0 ≤ Go.Lib.indexByte s c) : (Go.Lib.indexByte s c).toNat < s.length ∧ c ∉ List.take (Go.Lib.indexByte s c).toNat s ∧ s = List.take (Go.Lib.indexByte s c).toNat s ++ c :: List.drop ((Go.Lib.indexByte s c).toNat + 1) s := by
  induction s with
  | nil => simp [Go.Lib.indexByte] at h
  | cons b s ih =>
    unfold Go.Lib.indexByte at h ⊢
    by_cases hb : b = c
    · rw [hb]; simp
    · have e1 : (b == c) = false := by simpa using hb
      rw [e1] at h ⊢
      simp only [Bool.false_eq_true, if_false] at h ⊢
      have hg := Go.Lib.indexByte_ge s c
      by_cases h1 : Go.Lib.indexByte s c = -1
      · rw [h1] at h; simp at h
      · rw [if_neg (by simpa using h1)] at h ⊢
        obtain ⟨i1, i2, i3⟩ := ih (by omega)
        have e : (Go.Lib.indexByte s c + 1).toNat = (Go.Lib.indexByte s c).toNat + 1 := by omega
        rw [e]
        refine ⟨by simp only [List.length_cons]; omega, ?_, ?_⟩
        · simp only [List.take_succ_cons, List.mem_cons, not_or]; exact ⟨fun q => hb q.symm, i2⟩
        · simp only [List.take_succ_cons, List.drop_succ_cons, List.cons_append]
          rw [← i3]
theorem index_rng (c : UInt8) (s : Bytes) : -1 ≤ Go.Lib.indexByte s c ∧ Go.Lib.indexByte s c < (s.length : Int) := by
  refine ⟨Go.Lib.indexByte_ge s c, ?_⟩
  by_cases h : 0 ≤ Go.Lib.indexByte s c
  · have := (index_some h).1; omega
  · omega
theorem mem_len {c : UInt8} {s p : Bytes} (h : p ∈ splitC c s) : p.length ≤ s.length := by
  have key : ∀ (l : List Bytes), p ∈ l → p.length ≤ (joinC c l).length := by
    intro l
    induction l with
    | nil => intro h; cases h
    | cons q l ih =>
      intro h
      cases l with
      | nil => rw [List.mem_singleton.1 h]; exact Nat.le_refl _
      | cons r l =>
        show _ ≤ (q ++ c :: joinC c (r :: l)).length
        simp only [List.length_append, List.length_cons]
        rcases List.mem_cons.1 h with rfl | h
        · omega
        · have := ih h; omega
  have := key _ h
  rwa [join_split] at this
theorem fill_set {α : Type} (d : α) (l : List α) (i : Nat) (h : i < l.length) : List.set (List.take i l ++ List.replicate (l.length - i) d) i (List.getD l i d) = List.take (i + 1) l ++ List.replicate (l.length - (i + 1)) d := by
  rw [Lib.take_succ d l i h, List.append_assoc, List.set_append_right _ _ (by rw [List.length_take]; omega), List.length_take, show i - min i l.length = 0 by omega, show l.length - i = (l.length - (i + 1)) + 1 by omega, List.replicate_succ]
  rfl
theorem join_count (c : UInt8) : ∀ (l : List Bytes), l.length ≤ (joinC c l).length + 1
  | [] => by simp
  | [p] => by simp
  | p :: q :: l => by
    have ih := join_count c (q :: l)
    show (p :: q :: l).length ≤ (p ++ c :: joinC c (q :: l)).length + 1
    simp only [List.length_cons, List.length_append] at ih ⊢
    omega
theorem join_max {c : UInt8} {n : Nat} : ∀ (l : List Bytes), (∀ p ∈ l, p.length ≤ n) → (joinC c l).length ≤ l.length * (n + 1)
  | [], _ => by simp [joinC]
  | [p], h => by have := h p (by simp); simp [joinC]; omega
  | p :: q :: l, h => by
    have ih := join_max (c := c) (q :: l) (fun x hx => h x (List.mem_cons_of_mem _ hx))
    have := h p (by simp)
    show (p ++ c :: joinC c (q :: l)).length ≤ _
    simp only [List.length_cons, List.length_append] at ih ⊢
    rw [Nat.add_mul (l.length + 1) 1]
    omega
def cutAt (c : UInt8) (s : Bytes) : Bytes × Bytes × Bool := if 0 ≤ Go.Lib.indexByte s c then (List.take (Go.Lib.indexByte s c).toNat s, List.drop ((Go.Lib.indexByte s c).toNat + 1) s, true) else (s, [], false)
theorem cut_app {c : UInt8} {p r : Bytes} (h : c ∉ p) : cutAt c (p ++ c :: r) = (p, r, true) := by
  unfold cutAt
  have h0 : 0 ≤ Go.Lib.indexByte (p ++ c :: r) c := by
    apply Classical.byContradiction
    intro hn
    exact index_none (c := c) (s := p ++ c :: r) (by omega) (by simp)
  obtain ⟨_, h2, h3⟩ := index_some h0
  rw [if_pos h0]
  have key : ∀ (a b x y : Bytes), c ∉ a → c ∉ b → a ++ c :: x = b ++ c :: y → a = b ∧ x = y := by
    intro a
    induction a with
    | nil =>
      intro b x y _ hb e
      cases b with
      | nil => exact ⟨rfl, by injection e⟩
      | cons u b => injection e with e1 e2; exact absurd (by rw [e1]; simp) hb
    | cons u a ih =>
      intro b x y ha hb e
      cases b with
      | nil => injection e with e1 e2; exact absurd (by rw [e1]; simp) ha
      | cons v b =>
        injection e with e1 e2
        simp only [List.mem_cons, not_or] at ha hb
        obtain ⟨r1, r2⟩ := ih b x y ha.2 hb.2 e2
        exact ⟨by rw [e1, r1], r2⟩
  obtain ⟨k1, k2⟩ := key _ _ _ _ h h2 h3
  rw [← k1, ← k2]
theorem cut_some {c : UInt8} {s : Bytes} (h : (cutAt c s).2.2 = true) : s = (cutAt c s).1 ++ c :: (cutAt c s).2.1 ∧ c ∉ (cutAt c s).1 := by
  unfold cutAt at *
  split at h
  · rename_i h0
    rw [if_pos h0]
    obtain ⟨_, h2, h3⟩ := index_some h0
    exact ⟨h3, h2⟩
  · cases h
theorem gen_n (k : UInt8) (s : Bytes) : (min (((s.count k : Nat) : Int) + 1) ((List.length s : Int) + 1)).toNat = (splitC k s).length := by
  have h1 := split_len k s
  have h2 : s.count k ≤ s.length := List.count_le_length
  omega
theorem gen_more {k : UInt8} {c : Bytes} (h : 0 ≤ Go.Lib.indexByte c k) : splitC k c = List.take (Go.Lib.indexByte c k).toNat c :: splitC k (List.drop ((Go.Lib.indexByte c k).toNat + 1) c) := by
  obtain ⟨h1, h2, h3⟩ := index_some h
  conv => lhs; rw [h3]
  rw [split_app _ h2]
theorem set_rep (o : List Bytes) (n : Nat) (x : Bytes) : List.set (o ++ List.replicate (n + 1) []) o.length x = (o ++ [x]) ++ List.replicate n [] := by
  rw [List.set_append_right _ _ (Nat.le_refl _), Nat.sub_self, List.replicate_succ, List.set_cons_zero, List.append_assoc]; rfl
theorem gen_step {k : UInt8} {o : List Bytes} {c : Bytes} (h : 0 ≤ Go.Lib.indexByte c k) (x : Bytes) :
    List.set (o ++ List.replicate (splitC k c).length []) o.length x = (o ++ [x]) ++ List.replicate (splitC k (List.drop ((Go.Lib.indexByte c k).toNat + 1) c)).length [] := by
  rw [gen_more h, List.length_cons, set_rep]
theorem gen_inv {k : UInt8} {s c : Bytes} {o : List Bytes} (hP : splitC k s = o ++ splitC k c) (h : 0 ≤ Go.Lib.indexByte c k) : splitC k s = (o ++ [List.take (Go.Lib.indexByte c k).toNat c]) ++ splitC k (List.drop ((Go.Lib.indexByte c k).toNat + 1) c) := by
  rw [hP, gen_more h, List.append_assoc]; rfl
theorem gen_last {k : UInt8} {s c : Bytes} {o : List Bytes} (hP : splitC k s = o ++ splitC k c) (h : ¬ (o.length : Int) < ((splitC k s).length : Int) - 1) : k ∉ c := by
  have := congrArg List.length hP
  rw [List.length_append] at this
  have h1 := split_len k c
  exact split_one.1 (by omega)
theorem gen_end {k : UInt8} {s c : Bytes} {o : List Bytes} (hP : splitC k s = o ++ splitC k c) (hc : k ∉ c) : List.take (o.length + 1) (List.set (o ++ List.replicate (splitC k c).length []) o.length c) = splitC k s := by
  rw [hP, split_none hc]
  show List.take (o.length + 1) (List.set (o ++ List.replicate (0 + 1) []) o.length c) = _
  rw [set_rep]
  rw [List.replicate_zero, List.append_nil, List.take_of_length_le (by simp)]
theorem gen_le {k : UInt8} {s c : Bytes} {o : List Bytes} (hP : splitC k s = o ++ splitC k c) : o.length + (splitC k c).length = (splitC k s).length ∧ (splitC k s).length ≤ s.length + 1 ∧ 1 ≤ (splitC k c).length := by
  have h0 := congrArg List.length hP
  have h1 := split_len k s
  have h2 : s.count k ≤ s.length := List.count_le_length
  have h3 := split_len k c
  rw [List.length_append] at h0
  omega
end AL.Sep
namespace AL.Policy
open Go AL AL.Rune
open AL.Sep (splitC joinC cutAt)
open AL.Under (withinS longS longestS)
set_option linter.unusedVariables false
set_option linter.unusedSimpArgs false
abbrev RuleV := Bytes × Int
def rowP (x : RuleV) (i : Nat) : SC := match i with | 0 => st x.1 | _ => u8 x.2
abbrev slP (l : List RuleV) : SC := .sl 2 RuleV ([], 0) rowP l
def prefS (l : List RuleV) : List Bytes := l.map (·.1)
def thereS (ahead : List RuleV) (p : Bytes) : Bool := ahead.any fun y => decide (y.1 = p)
def oneC (ahead : List RuleV) (x : RuleV) : Int :=
  if ¬ x.1 = [] ∧ ¬ Route.checkS x.1 = 0 then Route.checkS x.1 else if 63 < x.2 then 2 else if thereS ahead x.1 = true then 20 else 0
def chkC : List RuleV → List RuleV → Int
  | _, [] => 0
  | ahead, x :: l => if oneC ahead x = 0 then chkC (ahead ++ [x]) l else oneC ahead x
def checkP (l : List RuleV) : Int := if 4 < l.length then 24 else chkC [] l
def ChkAt (l : List RuleV) (k : Nat) : Prop := chkC [] l = chkC (List.take k l) (List.drop k l)
theorem chk_0 (l : List RuleV) : ChkAt l 0 := by unfold ChkAt; rw [List.take_zero, List.drop_zero]
theorem chk_step {l : List RuleV} {k : Nat} (h : k < l.length) (hN : ChkAt l k) (h0 : oneC (List.take k l) (List.getD l k ([], 0)) = 0) : ChkAt l (k + 1) := by
  unfold ChkAt at *
  rw [hN, Lib.drop_cons ([], 0) l k h]
  show (if oneC _ _ = 0 then _ else _) = _
  rw [if_pos h0, ← Lib.take_succ ([], 0) l k h]
theorem chk_bad {l : List RuleV} {k : Nat} (h : k < l.length) (hl : ¬ 4 < l.length) (hN : ChkAt l k) (h0 : ¬ oneC (List.take k l) (List.getD l k ([], 0)) = 0) : checkP l = oneC (List.take k l) (List.getD l k ([], 0)) := by
  unfold ChkAt at hN
  unfold checkP
  rw [if_neg hl, hN, Lib.drop_cons ([], 0) l k h]
  show (if oneC _ _ = 0 then _ else _) = _
  rw [if_neg h0]
theorem chk_end {l : List RuleV} {k : Nat} (h : l.length ≤ k) (hl : ¬ 4 < l.length) (hN : ChkAt l k) : checkP l = 0 := by
  unfold ChkAt at hN
  unfold checkP
  rw [if_neg hl, hN, List.drop_of_length_le h]
  rfl
theorem chk_many {l : List RuleV} (h : 4 < l.length) : checkP l = 24 := if_pos h
theorem there_idx (l : List RuleV) (p : Bytes) : decide (0 ≤ Lib.idxS (fun y : RuleV => decide (y.1 = p)) l) = thereS l p := by
  unfold thereS
  rw [Bool.eq_iff_iff, decide_eq_true_eq, List.any_eq_true]
  constructor
  · intro h
    obtain ⟨h1, _⟩ := Lib.idx_pos (([], 0) : RuleV) h
    exact ⟨_, Lib.getD_mem ([], 0) l _ (by have := Lib.idx_lt (fun y : RuleV => decide (y.1 = p)) l; omega), h1⟩
  · rintro ⟨x, hx, hp⟩
    by_cases h : 0 ≤ Lib.idxS (fun y : RuleV => decide (y.1 = p)) l
    · exact h
    · have h2 := Lib.idx_neg (p := fun y : RuleV => decide (y.1 = p)) (by omega) x hx
      exact absurd (h2.symm.trans hp) (by decide)
def OkP (x : RuleV) : Prop := (x.1 = [] ∨ Route.checkS x.1 = 0) ∧ x.2 ≤ 63
theorem one_ok {ahead : List RuleV} {x : RuleV} : oneC ahead x = 0 ↔ OkP x ∧ ∀ y ∈ ahead, ¬ y.1 = x.1 := by
  have ht : thereS ahead x.1 = true ↔ ∃ y ∈ ahead, y.1 = x.1 := by
    unfold thereS
    rw [List.any_eq_true]
    simp only [decide_eq_true_eq]
  unfold oneC OkP
  constructor
  · intro h
    split at h
    · rename_i q; exact absurd h q.2
    · rename_i q
      split at h
      · omega
      · split at h
        · omega
        · rename_i q2 q3
          refine ⟨⟨?_, by omega⟩, fun y hy e => q3 (ht.2 ⟨y, hy, e⟩)⟩
          apply Classical.byContradiction
          intro hn
          rw [not_or] at hn
          exact q hn
  · rintro ⟨⟨h1, h2⟩, h3⟩
    rw [if_neg (by rintro ⟨a, b⟩; rcases h1 with h1 | h1; exact a h1; exact b h1), if_neg (by omega), if_neg]
    intro q
    obtain ⟨y, hy, e⟩ := ht.1 q
    exact h3 y hy e
def MayP (l : List RuleV) : Prop := l.length ≤ 4 ∧ (∀ x ∈ l, OkP x) ∧ (prefS l).Nodup
theorem chk_may : ∀ (l ahead : List RuleV), chkC ahead l = 0 ↔ (∀ x ∈ l, OkP x) ∧ (prefS l).Nodup ∧ ∀ x ∈ l, ∀ y ∈ ahead, ¬ y.1 = x.1 := by
  intro l
  induction l with
  | nil => intro ahead; simp [chkC, prefS]
  | cons x l ih =>
    intro ahead
    have e : chkC ahead (x :: l) = if oneC ahead x = 0 then chkC (ahead ++ [x]) l else oneC ahead x := rfl
    have hp : (prefS (x :: l)).Nodup ↔ (∀ y ∈ l, ¬ x.1 = y.1) ∧ (prefS l).Nodup := by
      unfold prefS
      rw [List.map_cons, List.nodup_cons]
      simp only [List.mem_map, not_exists, not_and]
      exact ⟨fun h => ⟨fun y hy e => h.1 y hy e.symm, h.2⟩, fun h => ⟨fun y hy e => h.1 y hy e.symm, h.2⟩⟩
    rw [e, hp]
    by_cases h0 : oneC ahead x = 0
    · rw [if_pos h0, ih]
      have h1 := one_ok.1 h0
      constructor
      · rintro ⟨a, b, c⟩
        refine ⟨fun y hy => ?_, ⟨fun y hy => c y hy x (by simp), b⟩, fun y hy z hz => ?_⟩
        · rcases List.mem_cons.1 hy with rfl | hy
          · exact h1.1
          · exact a y hy
        · rcases List.mem_cons.1 hy with rfl | hy
          · exact h1.2 z hz
          · exact c y hy z (List.mem_append_left _ hz)
      · rintro ⟨a, ⟨b1, b2⟩, c⟩
        refine ⟨fun y hy => a y (List.mem_cons_of_mem _ hy), b2, fun y hy z hz => ?_⟩
        rcases List.mem_append.1 hz with hz | hz
        · exact c y (List.mem_cons_of_mem _ hy) z hz
        · rw [List.mem_singleton.1 hz]; exact b1 y hy
    · rw [if_neg h0]
      refine ⟨fun h => absurd h h0, fun h => absurd (one_ok.2 ⟨h.1 x (by simp), fun y hy => h.2.2 x (by simp) y hy⟩) h0⟩
theorem check_may {l : List RuleV} : checkP l = 0 ↔ MayP l := by
  unfold checkP MayP
  by_cases h : 4 < l.length
  · rw [if_pos h]; omega
  · rw [if_neg h, chk_may]
    constructor
    · rintro ⟨a, b, c⟩; exact ⟨by omega, a, b⟩
    · rintro ⟨a, b, c⟩; exact ⟨b, c, fun x _ y hy => by cases hy⟩
def capsP (l : List RuleV) (path : Bytes) : Int := if longestS path (prefS l) < 0 then 0 else (List.getD l (longestS path (prefS l)).toNat ([], 0)).2
theorem pref_getD (l : List RuleV) (k : Nat) : List.getD (prefS l) k [] = (List.getD l k ([], 0)).1 := by
  unfold prefS
  rw [List.getD_eq_getElem?_getD, List.getD_eq_getElem?_getD, List.getElem?_map]
  cases l[k]? <;> rfl
theorem pref_len (l : List RuleV) : (prefS l).length = l.length := List.length_map _
theorem pref_step (l : List RuleV) (k : Nat) (h : k < l.length) : List.set (prefS (List.take k l) ++ List.replicate (l.length - k) []) k (List.getD l k ([], 0)).1 = prefS (List.take (k + 1) l) ++ List.replicate (l.length - (k + 1)) [] := by
  have := Sep.fill_set ([] : Bytes) (prefS l) k (by rw [pref_len]; exact h)
  rw [pref_len, pref_getD] at this
  unfold prefS at *
  rw [List.map_take, List.map_take]
  exact this
theorem pref_end (l : List RuleV) (k : Nat) (h : l.length ≤ k) : prefS (List.take k l) ++ List.replicate (l.length - k) [] = prefS l := by
  rw [List.take_of_length_le h, show l.length - k = 0 by omega]; simp
def hasB (all some : Int) : Bool := decide (BitVec.ofInt 8 some &&& ~~~(BitVec.ofInt 8 all) = 0#8)
theorem has_iff {all some : Int} : hasB all some = true ↔ ∀ i, i < 8 → (BitVec.ofInt 8 some).getLsbD i = true → (BitVec.ofInt 8 all).getLsbD i = true := by
  unfold hasB
  rw [decide_eq_true_eq]
  constructor
  · intro h i hi h1
    have h2 := congrArg (fun v => BitVec.getLsbD v i) h
    simp only [BitVec.getLsbD_and, BitVec.getLsbD_not, BitVec.getLsbD_zero, h1, Bool.true_and, decide_eq_true hi] at h2
    simpa using h2
  · intro h
    refine BitVec.eq_of_getLsbD_eq fun i hi => ?_
    rw [BitVec.getLsbD_and, BitVec.getLsbD_not, BitVec.getLsbD_zero, decide_eq_true hi, Bool.true_and]
    cases h1 : (BitVec.ofInt 8 some).getLsbD i with
    | false => rfl
    | true => rw [h i hi h1]; rfl
theorem wrap_byte {n : Nat} (h : n < 256) : IntKind.wrap .u8 (n : Int) = (n : Int) := by
  simp [IntKind.wrap, IntKind.signed, IntKind.bits]
  omega
theorem has_val (all some : Int) : decide (IntKind.wrap .u8 ((BitVec.ofInt 8 some &&& ~~~(BitVec.ofInt 8 all)).toNat : Int) = 0) = hasB all some := by
  unfold hasB
  rw [decide_eq_decide, wrap_byte (BitVec.ofInt 8 some &&& ~~~(BitVec.ofInt 8 all)).isLt]
  constructor
  · intro h
    exact BitVec.eq_of_toNat_eq (by rw [show (0#8).toNat = 0 from rfl]; omega)
  · intro h; rw [h]; rfl
def bitN (n : Int) (i : Nat) : Bool := decide (n / 2 ^ i % 2 = 1)
def shrN (n : Int) (i : Nat) : Int := n / 2 ^ i
theorem shr_rng {n : Int} (h0 : 0 ≤ n) (h1 : n < 256) (i : Nat) : 0 ≤ shrN n i ∧ shrN n i < 256 := by
  unfold shrN
  refine ⟨Int.ediv_nonneg h0 (Int.pow_nonneg (by decide)), ?_⟩
  exact Int.lt_of_le_of_lt (Int.ediv_le_self _ h0) h1
def allowsS (l : List RuleV) (path : Bytes) (caps : Int) : Bool := hasB (capsP l path) caps
def coverS (a b : List RuleV) (ps : List Bytes) : Bool := ps.all fun p => hasB (capsP b p) (capsP a p)
def coversS (a b : List RuleV) : Bool := decide (checkP a = 0) && (decide (checkP b = 0) && coverS a b (prefS a ++ prefS b))
theorem mem_pref {l : List RuleV} {x : RuleV} (h : x ∈ l) : x.1 ∈ prefS l := List.mem_map_of_mem h
theorem covers_no {a b : List RuleV} (h : ¬ checkP a = 0 ∨ ¬ checkP b = 0) : coversS a b = false := by
  unfold coversS
  rcases h with h | h
  · rw [decide_eq_false h]; rfl
  · rw [decide_eq_false h]; simp
theorem cover_step {a b : List RuleV} {ps : List Bytes} {k : Nat} (h : k < ps.length) (hN : coverS a b (List.take k ps) = true) (h2 : hasB (capsP b (List.getD ps k [])) (capsP a (List.getD ps k [])) = true) : coverS a b (List.take (k + 1) ps) = true := by
  unfold coverS at *
  rw [Lib.take_succ [] ps k h, List.all_append, hN]
  simp only [List.all_cons, List.all_nil, Bool.and_true, Bool.true_and]
  exact h2
theorem cover_app (a b : List RuleV) (p q : List Bytes) : coverS a b (p ++ q) = (coverS a b p && coverS a b q) := List.all_append ..
def lets : Bytes := [114, 119, 100, 120, 108, 115]
def laysN (n : Nat) : Bytes := (List.range 6).flatMap fun i => if n / 2 ^ i % 2 = 1 then [List.getD lets i 0] else []
def layS (n : Int) : Bytes := laysN n.toNat
def layK (n : Int) (k : Nat) : Bytes := (List.range k).flatMap fun i => if bitN n i = true then [List.getD lets i 0] else []
theorem lay_6 {n : Int} (h0 : 0 ≤ n) : layK n 6 = layS n := by
  obtain ⟨m, rfl⟩ := Int.eq_ofNat_of_zero_le h0
  unfold layK layS laysN
  rw [Int.toNat_natCast]
  have e : (fun i => if bitN (m : Int) i = true then [List.getD lets i 0] else []) = fun i => if m / 2 ^ i % 2 = 1 then [List.getD lets i 0] else [] := by
    funext i
    have : bitN (m : Int) i = true ↔ m / 2 ^ i % 2 = 1 := by
      unfold bitN
      rw [decide_eq_true_eq]
      have e2 : ((m : Int) / 2 ^ i % 2) = ((m / 2 ^ i % 2 : Nat) : Int) := by
        rw [Int.natCast_emod, Int.natCast_ediv, Int.natCast_pow]; rfl
      rw [e2]; omega
    by_cases q : m / 2 ^ i % 2 = 1
    · rw [if_pos q, if_pos (this.2 q)]
    · rw [if_neg q, if_neg (fun z => q (this.1 z))]
  rw [e]
theorem lay_t {n : Int} {k : Nat} (h : bitN n k = true) : layK n (k + 1) = layK n k ++ [List.getD lets k 0] := by
  unfold layK
  rw [List.range_succ, List.flatMap_append, List.flatMap_cons, List.flatMap_nil, if_pos h, List.append_nil]
theorem lay_f {n : Int} {k : Nat} (h : bitN n k = false) : layK n (k + 1) = layK n k := by
  unfold layK
  rw [List.range_succ, List.flatMap_append, List.flatMap_cons, List.flatMap_nil, if_neg (by rw [h]; decide), List.append_nil, List.append_nil]
theorem lay_len (n : Int) : ∀ k, (layK n k).length ≤ k := by
  intro k
  induction k with
  | zero => simp [layK]
  | succ k ih =>
    cases h : bitN n k with
    | true => rw [lay_t h, List.length_append]; simp only [List.length_cons, List.length_nil]; omega
    | false => rw [lay_f h]; omega
theorem layS_len (n : Int) : (layS n).length ≤ 6 := by
  have := lay_len (n.toNat : Int) 6
  rw [lay_6 (by omega)] at this
  unfold layS at *
  rwa [Int.toNat_natCast] at this
def pieceS (x : RuleV) : Bytes := (x.1 ++ [58]) ++ layS x.2
def textOf (l : List RuleV) : Bytes := joinC 44 (l.map pieceS)
def textP (l : List RuleV) : Bytes × Int := if checkP l = 0 then (textOf l, 0) else ([], checkP l)
theorem text_ok {l : List RuleV} (h : checkP l = 0) : textP l = (textOf l, 0) := if_pos h
theorem text_no {l : List RuleV} (h : ¬ checkP l = 0) : textP l = ([], checkP l) := if_neg h
theorem text_may {l : List RuleV} (h : (textP l).2 = 0) : checkP l = 0 := by
  apply Classical.byContradiction
  intro hn
  rw [text_no hn] at h
  exact hn h
theorem piece_getD (l : List RuleV) (k : Nat) (h : k < l.length) : List.getD (l.map pieceS) k [] = pieceS (List.getD l k ([], 0)) := by
  rw [Lib.getD_lt _ _ _ (by rw [List.length_map]; exact h), Lib.getD_lt _ _ _ h, List.getElem_map]
theorem piece_step (l : List RuleV) (k : Nat) (h : k < l.length) : List.set ((List.take k l).map pieceS ++ List.replicate (l.length - k) []) k (pieceS (List.getD l k ([], 0))) = (List.take (k + 1) l).map pieceS ++ List.replicate (l.length - (k + 1)) [] := by
  have := Sep.fill_set ([] : Bytes) (l.map pieceS) k (by rw [List.length_map]; exact h)
  rw [List.length_map, piece_getD l k h] at this
  rw [List.map_take, List.map_take]
  exact this
theorem piece_end (l : List RuleV) (k : Nat) (h : l.length ≤ k) : (List.take k l).map pieceS ++ List.replicate (l.length - k) [] = l.map pieceS := by
  rw [List.take_of_length_le h, show l.length - k = 0 by omega]; simp
theorem text_len {l : List RuleV} {n : Nat} (h : ∀ x ∈ l, x.1.length ≤ n) : (textOf l).length ≤ l.length * (n + 8) := by
  have := Sep.join_max (c := 44) (n := n + 7) (l.map pieceS) (fun p hp => by
    obtain ⟨x, hx, rfl⟩ := List.mem_map.1 hp
    have h1 := h x hx
    have h2 := layS_len x.2
    unfold pieceS
    simp only [List.length_append, List.length_cons, List.length_nil]
    omega)
  rw [List.length_map] at this
  exact this
def atN (out : Nat) : Nat := if out = 0 then 0 else Nat.log2 out + 1
theorem caps_grow : ∀ out, out < 64 → ∀ j, j < 6 → atN out ≤ j → out + 2 ^ j < 64 ∧ laysN (out + 2 ^ j) = laysN out ++ [List.getD lets j 0] ∧ atN (out + 2 ^ j) = j + 1 ∧
    IntKind.wrap .u8 (((BitVec.ofInt 8 (out : Int) ||| BitVec.ofInt 8 (IntKind.wrap .u8 ((1 : Int) * 2 ^ (min (j : Int).toNat (IntKind.bits .u8))))).toNat : Int)) = ((out + 2 ^ j : Nat) : Int) := by decide +kernel
theorem caps_fail : ∀ n, n < 64 → ∀ out, out < 64 → List.isPrefixOf (laysN out) (laysN n) = true → laysN out = laysN n ∨ ∃ j, j < 6 ∧ (atN out ≤ j ∧ List.getD lets j 0 = List.getD (laysN n) (laysN out).length 0) := by decide +kernel
theorem lays_inj : ∀ n, n < 64 → ∀ m, m < 64 → laysN n = laysN m → n = m := by decide +kernel
theorem at_le : ∀ out, out < 64 → atN out ≤ 6 := by decide +kernel
theorem lets_low : ∀ j, j < 6 → (List.getD lets j 0).toNat < 128 ∧ List.getD lets j 0 ≠ 44 ∧ List.getD lets j 0 ≠ 58 ∧ List.getD lets j 0 ≠ 32 := by decide
theorem lays_mem {n : Nat} {b : UInt8} (h : b ∈ laysN n) : ∃ j, j < 6 ∧ b = List.getD lets j 0 := by
  unfold laysN at h
  obtain ⟨j, hj, hb⟩ := List.mem_flatMap.1 h
  refine ⟨j, List.mem_range.1 hj, ?_⟩
  split at hb
  · exact List.mem_singleton.1 hb
  · cases hb
def capsN (r : Bytes) : Option Nat := (List.range 64).find? fun n => decide (laysN n = r)
def capsR (r : Bytes) : Int × Bool := match capsN r with
  | some n => ((n : Int), true)
  | none => (0, false)
theorem capsN_some {r : Bytes} {n : Nat} (h : capsN r = some n) : n < 64 ∧ laysN n = r := by
  unfold capsN at h
  have h1 := List.find?_some h
  have h2 := List.mem_of_find?_eq_some h
  exact ⟨List.mem_range.1 h2, of_decide_eq_true h1⟩
theorem capsR_ok {n : Nat} {r : Bytes} (h : n < 64) (e : laysN n = r) : capsR r = ((n : Int), true) := by
  unfold capsR
  cases hc : capsN r with
  | none =>
    exfalso
    unfold capsN at hc
    rw [List.find?_eq_none] at hc
    exact hc n (List.mem_range.2 h) (decide_eq_true e)
  | some m =>
    obtain ⟨h1, h2⟩ := capsN_some hc
    rw [lays_inj n h m h1 (e.trans h2.symm)]
theorem capsR_no {r : Bytes} (h : ∀ n, n < 64 → laysN n ≠ r) : capsR r = (0, false) := by
  unfold capsR
  cases hc : capsN r with
  | none => rfl
  | some m => obtain ⟨h1, h2⟩ := capsN_some hc; exact absurd h2 (h m h1)
theorem capsR_yes {r : Bytes} (h : (capsR r).2 = true) : ∃ n, n < 64 ∧ laysN n = r ∧ capsR r = ((n : Int), true) := by
  unfold capsR at h
  cases hc : capsN r with
  | none => rw [hc] at h; cases h
  | some m => obtain ⟨h1, h2⟩ := capsN_some hc; exact ⟨m, h1, h2, capsR_ok h1 h2⟩
theorem dec_low {s : Bytes} {pos : Nat} (h : pos < s.length) (hb : (List.getD s pos 0).toNat < 128) : decS s pos = ((List.getD s pos 0).toNat, 1) := by
  rw [Rune.dec_N]
  unfold Go.Lib.decodeN
  rw [if_pos hb]
theorem dec_high {s : Bytes} {pos : Nat} (h : pos < s.length) (hb : ¬ (List.getD s pos 0).toNat < 128) : 128 ≤ (decS s pos).1 := by
  rw [Rune.dec_N]
  have q0 := Rune.byte_lt s pos
  unfold Go.Lib.decodeN
  rw [if_neg hb]
  repeat' split
  all_goals (simp only []; omega)
theorem caps_stop {s : Bytes} {pos out : Nat} (ho : out < 64) (hs : laysN out = List.take pos s) (h : pos < s.length) (hN : ∀ m, atN out ≤ m → m < 6 → ¬ (List.getD lets m 0).toNat = (decS s pos).1) : capsR s = (0, false) := by
  refine capsR_no fun n hn e => ?_
  have hp : List.isPrefixOf (laysN out) (laysN n) = true := by
    rw [e, hs, List.isPrefixOf_iff_prefix]; exact List.take_prefix _ _
  have hl : (laysN out).length = pos := by rw [hs, List.length_take]; omega
  rcases caps_fail n hn out ho hp with q | ⟨j, h1, h2, h3⟩
  · rw [e] at q
    rw [q] at hl; omega
  · rw [e, hl] at h3
    have hlow := (lets_low j h1).1
    refine hN j h2 h1 ?_
    rw [dec_low h (by rw [← h3]; exact hlow), h3]
theorem caps_next {s : Bytes} {pos out j : Nat} (ho : out < 64) (hs : laysN out = List.take pos s) (h : pos < s.length) (hj : j < 6) (ha : atN out ≤ j) (hc : (List.getD lets j 0).toNat = (decS s pos).1) : out + 2 ^ j < 64 ∧ laysN (out + 2 ^ j) = List.take (pos + (decS s pos).2) s ∧ atN (out + 2 ^ j) = j + 1 := by
  obtain ⟨g1, g2, g3, _⟩ := caps_grow out ho j hj ha
  refine ⟨g1, ?_, g3⟩
  have hlow := (lets_low j hj).1
  have hb : (List.getD s pos 0).toNat < 128 := by
    apply Classical.byContradiction
    intro hn
    have := dec_high h hn
    omega
  rw [dec_low h hb] at hc ⊢
  have e : List.getD lets j 0 = List.getD s pos 0 := UInt8.toNat_inj.1 hc
  rw [g2, hs, e, Lib.take_succ 0 s pos h]
theorem caps_done {s : Bytes} {pos out : Nat} (ho : out < 64) (hs : laysN out = List.take pos s) (h : s.length ≤ pos) : capsR s = ((out : Int), true) := by
  rw [List.take_of_length_le h] at hs
  exact capsR_ok ho hs
def scanP (s : Bytes) : RuleV × Bool := if (cutAt 58 s).2.2 = true ∧ (capsR (cutAt 58 s).2.1).2 = true then (((cutAt 58 s).1, (capsR (cutAt 58 s).2.1).1), true) else (([], 0), false)
def ruled (l : List Bytes) : List RuleV := l.map fun p => (scanP p).1
def fineS (l : List Bytes) : Bool := l.all fun p => (scanP p).2
def parseP (s : Bytes) : List RuleV × Int :=
  if s = [] then ([], 0) else if fineS (splitC 44 s) = true then (if checkP (ruled (splitC 44 s)) = 0 then (ruled (splitC 44 s), 0) else ([], checkP (ruled (splitC 44 s)))) else ([], 4)
theorem scan_ok {s : Bytes} (h1 : (cutAt 58 s).2.2 = true) (h2 : (capsR (cutAt 58 s).2.1).2 = true) : scanP s = (((cutAt 58 s).1, (capsR (cutAt 58 s).2.1).1), true) := if_pos ⟨h1, h2⟩
theorem scan_no {s : Bytes} (h : ¬ ((cutAt 58 s).2.2 = true ∧ (capsR (cutAt 58 s).2.1).2 = true)) : scanP s = (([], 0), false) := if_neg h
theorem ruled_step (l : List Bytes) (k : Nat) (h : k < l.length) : ruled (List.take k l) ++ [(scanP (List.getD l k [])).1] = ruled (List.take (k + 1) l) := by
  unfold ruled
  rw [Lib.take_succ [] l k h, List.map_append]; rfl
theorem ruled_len (l : List Bytes) : (ruled l).length = l.length := List.length_map _
theorem fine_step {l : List Bytes} {k : Nat} (h : k < l.length) (hN : fineS (List.take k l) = true) (h2 : (scanP (List.getD l k [])).2 = true) : fineS (List.take (k + 1) l) = true := by
  unfold fineS at *
  rw [Lib.take_succ [] l k h, List.all_append, hN]
  simp only [List.all_cons, List.all_nil, Bool.and_true, Bool.true_and]
  exact h2
theorem fine_bad {l : List Bytes} {k : Nat} (h : k < l.length) (h2 : (scanP (List.getD l k [])).2 = false) : fineS l = false := by
  unfold fineS
  rw [List.all_eq_false]
  exact ⟨_, Lib.getD_mem [] l k h, by rw [h2]; decide⟩
theorem parse_nil : parseP [] = ([], 0) := rfl
theorem parse_bad {s : Bytes} (h0 : ¬ s = []) (h : fineS (splitC 44 s) = false) : parseP s = ([], 4) := by
  unfold parseP
  rw [if_neg h0, if_neg (by rw [h]; decide)]
theorem parse_no {s : Bytes} (h0 : ¬ s = []) (h : fineS (splitC 44 s) = true) (h2 : ¬ checkP (ruled (splitC 44 s)) = 0) : parseP s = ([], checkP (ruled (splitC 44 s))) := by
  unfold parseP
  rw [if_neg h0, if_pos h, if_neg h2]
theorem parse_ok {s : Bytes} (h0 : ¬ s = []) (h : fineS (splitC 44 s) = true) (h2 : checkP (ruled (splitC 44 s)) = 0) : parseP s = (ruled (splitC 44 s), 0) := by
  unfold parseP
  rw [if_neg h0, if_pos h, if_pos h2]
theorem rune_low {s : Bytes} {pos : Nat} (h : pos < s.length) (b : UInt8) (hb : b.toNat < 128) (hne : (decS s pos).1 ≠ b.toNat) : b ∉ List.take (decS s pos).2 (List.drop pos s) := by
  have hd := dec_ok h
  have key : ∀ k, (∀ j, j < k → (List.getD s (pos + j) 0).toNat ≠ b.toNat) → pos + k ≤ s.length → b ∉ List.take k (List.drop pos s) := by
    intro k hk hl hm
    obtain ⟨j, hj, e⟩ := List.mem_iff_getElem.1 hm
    rw [List.length_take, List.length_drop] at hj
    rw [List.getElem_take, List.getElem_drop] at e
    refine hk j (by omega) ?_
    rw [AL.Lib.getD_lt 0 s _ (by omega), e]
  rw [dec_N] at *
  rcases Go.Lib.decodeN_shape (s.length - pos) (List.getD s pos 0).toNat (List.getD s (pos + 1) 0).toNat (List.getD s (pos + 2) 0).toNat (List.getD s (pos + 3) 0).toNat with ⟨c, e⟩ | ⟨c1, c2, c3, cv, e⟩ | ⟨c1, c2, c3, c4, cv, cs, e⟩ | ⟨c1, c2, c3, c4, c5, cv, cw, e⟩ | e
  · rw [e] at hd hne ⊢
    refine key 1 (fun j hj => ?_) (by omega)
    have : j = 0 := by omega
    subst this; exact hne
  · rw [e] at hd ⊢
    refine key 2 (fun j hj => ?_) (by simp only [] at hd; omega)
    match j, hj with
      | 0, _ => rw [Nat.add_zero]; omega
      | 1, _ => omega
  · rw [e] at hd ⊢
    refine key 3 (fun j hj => ?_) (by simp only [] at hd; omega)
    match j, hj with
      | 0, _ => rw [Nat.add_zero]; omega
      | 1, _ => omega
      | 2, _ => omega
  · rw [e] at hd ⊢
    refine key 4 (fun j hj => ?_) (by simp only [] at hd; omega)
    match j, hj with
      | 0, _ => rw [Nat.add_zero]; omega
      | 1, _ => omega
      | 2, _ => omega
      | 3, _ => omega
  · rw [e] at hd hne ⊢
    refine key 1 (fun j hj => ?_) (by omega)
    have : j = 0 := by omega
    subst this
    rw [Nat.add_zero]
    intro e2
    have : Go.Lib.decodeN (s.length - pos) (List.getD s pos 0).toNat (List.getD s (pos + 1) 0).toNat (List.getD s (pos + 2) 0).toNat (List.getD s (pos + 3) 0).toNat = ((List.getD s pos 0).toNat, 1) := by unfold Go.Lib.decodeN; rw [if_pos (by omega)]
    rw [e] at this
    have h1 := congrArg Prod.fst this
    simp only [] at h1
    omega
theorem runes_low (b : UInt8) (hb : b.toNat < 128) : ∀ s : Bytes, b ∈ s → ∃ x ∈ runesS s, x.1 = b.toNat := by
  refine runes_ind (p := fun s => b ∈ s → ∃ x ∈ runesS s, x.1 = b.toNat) (fun h => by cases h) fun s hs ih hm => ?_
  rw [runes_cons hs]
  by_cases e : (decS s 0).1 = b.toNat
  · exact ⟨_, List.mem_cons_self .., e⟩
  · have h1 := rune_low (pos := 0) (List.length_pos_iff.2 hs) b hb e
    rw [List.drop_zero] at h1
    rw [← List.take_append_drop (decS s 0).2 s, List.mem_append] at hm
    rcases hm with hm | hm
    · exact absurd hm h1
    · obtain ⟨x, hx, e2⟩ := ih hm
      exact ⟨x, List.mem_cons_of_mem _ hx, e2⟩
theorem part_ok {s : Bytes} (h : Route.partS s = 0) (b : UInt8) (hb : b ∈ s) (hl : b.toNat < 128) : Route.runeOk (b.toNat : Int) = true := by
  have ha : (runesS s).all Route.okR = true := by
    apply Classical.byContradiction
    intro hn
    rw [Route.part_2 (by simpa using hn)] at h
    omega
  obtain ⟨x, hx, e⟩ := runes_low b hl s hb
  have := List.all_eq_true.1 ha x hx
  unfold Route.okR at this
  rwa [e] at this
theorem path_ok {s : Bytes} (h : Route.checkS s = 0) (b : UInt8) (hb : b ∈ s) (hl : b.toNat < 128) (h47 : ¬ b = 47) : Route.runeOk (b.toNat : Int) = true := by
  have hs : ¬ 64 < s.length := fun q => by rw [Route.check_big q] at h; omega
  rw [Route.check_small hs] at h
  have hp : ∀ p ∈ piecesS s, Route.partS p = 0 := by
    intro p hp
    obtain ⟨k, hk, rfl⟩ := List.mem_iff_getElem.1 hp
    unfold Route.gradedS at h
    split at h
    · omega
    · rename_i q1
      split at h
      · omega
      · rename_i q2
        have n4 : ¬ Route.partS (piecesS s)[k] = 4 := fun q => q1 (List.any_eq_true.2 ⟨_, List.getElem_mem hk, decide_eq_true q⟩)
        have n5 : ¬ Route.partS (piecesS s)[k] = 5 := fun q => q2 (List.any_eq_true.2 ⟨_, List.getElem_mem hk, decide_eq_true q⟩)
        rcases Route.part_val (piecesS s)[k] with q | q | q
        · exact q
        · exact absurd q n4
        · exact absurd q n5
  have hm : ∃ p ∈ piecesS s, b ∈ p := by
    have key : ∀ (l : List Bytes), b ∈ joinS l → ∃ p ∈ l, b ∈ p := by
      intro l
      induction l with
      | nil => intro h; cases h
      | cons p l ih =>
        intro hm
        cases l with
        | nil => exact ⟨p, by simp, hm⟩
        | cons q l =>
          have hm : b ∈ p ++ 47 :: joinS (q :: l) := hm
          rcases List.mem_append.1 hm with hm | hm
          · exact ⟨p, by simp, hm⟩
          · rcases List.mem_cons.1 hm with hm | hm
            · exact absurd hm h47
            · obtain ⟨r, hr, e⟩ := ih hm
              exact ⟨r, List.mem_cons_of_mem _ hr, e⟩
    exact key _ (by rw [join_pieces]; exact hb)
  obtain ⟨p, hp1, hp2⟩ := hm
  exact part_ok (hp p hp1) b hp2 hl
theorem path_no {s : Bytes} (h : s = [] ∨ Route.checkS s = 0) : (44 : UInt8) ∉ s ∧ (58 : UInt8) ∉ s ∧ (32 : UInt8) ∉ s := by
  rcases h with h | h
  · subst h; simp
  · refine ⟨fun q => ?_, fun q => ?_, fun q => ?_⟩
    · exact absurd (path_ok h _ q (by decide) (by decide)) (by decide)
    · exact absurd (path_ok h _ q (by decide) (by decide)) (by decide)
    · exact absurd (path_ok h _ q (by decide) (by decide)) (by decide)
theorem piece_scan {x : RuleV} (h : OkP x) (h0 : 0 ≤ x.2) : scanP (pieceS x) = (x, true) := by
  obtain ⟨m, hm⟩ := Int.eq_ofNat_of_zero_le h0
  have hm64 : m < 64 := by have := h.2; omega
  have hc : cutAt 58 (pieceS x) = (x.1, layS x.2, true) := by
    unfold pieceS
    rw [List.append_assoc]
    exact Sep.cut_app (path_no h.1).2.1
  have hr : capsR (layS x.2) = (x.2, true) := by
    unfold layS
    rw [hm, Int.toNat_natCast]
    exact capsR_ok hm64 rfl
  rw [scan_ok (by rw [hc]) (by rw [hc]; show (capsR (layS x.2)).2 = true; rw [hr]), hc]
  show ((x.1, (capsR (layS x.2)).1), true) = _
  rw [hr]
theorem piece_44 {x : RuleV} (h : OkP x) : (44 : UInt8) ∉ pieceS x := by
  unfold pieceS
  intro q
  rcases List.mem_append.1 q with q | q
  · rcases List.mem_append.1 q with q | q
    · exact (path_no h.1).1 q
    · exact absurd (List.mem_singleton.1 q) (by decide)
  · obtain ⟨j, hj, e⟩ := lays_mem q
    exact (lets_low j hj).2.1 e.symm
theorem text_split {l : List RuleV} (h : ∀ x ∈ l, OkP x) (h0 : l ≠ []) : splitC 44 (textOf l) = l.map pieceS := by
  refine Sep.split_join (fun p hp => ?_) (by simpa using h0)
  obtain ⟨x, hx, rfl⟩ := List.mem_map.1 hp
  exact piece_44 (h x hx)
theorem piece_ne (x : RuleV) : pieceS x ≠ [] := by unfold pieceS; simp
theorem text_ne {l : List RuleV} (h0 : l ≠ []) : textOf l ≠ [] := by
  cases l with
  | nil => exact absurd rfl h0
  | cons x l =>
    cases l with
    | nil => exact piece_ne x
    | cons y l => show pieceS x ++ 44 :: joinC 44 (pieceS y :: l.map pieceS) ≠ []; simp
theorem parse_text {l : List RuleV} (h : checkP l = 0) (h0 : ∀ x ∈ l, 0 ≤ x.2) : parseP (textOf l) = (l, 0) := by
  by_cases e : l = []
  · subst e; rfl
  · have hm := check_may.1 h
    have hs := text_split hm.2.1 e
    have hr : ruled (l.map pieceS) = l := by
      unfold ruled
      rw [List.map_map]
      conv => rhs; rw [← List.map_id l]
      refine List.map_congr_left fun x hx => ?_
      show (scanP (pieceS x)).1 = x
      rw [piece_scan (hm.2.1 x hx) (h0 x hx)]
    have hf : fineS (l.map pieceS) = true := by
      unfold fineS
      rw [List.all_eq_true]
      intro p hp
      obtain ⟨x, hx, rfl⟩ := List.mem_map.1 hp
      rw [piece_scan (hm.2.1 x hx) (h0 x hx)]
    rw [parse_ok (text_ne e) (by rw [hs]; exact hf) (by rw [hs, hr]; exact h), hs, hr]
theorem scan_piece {p : Bytes} (h : (scanP p).2 = true) : pieceS (scanP p).1 = p ∧ 0 ≤ (scanP p).1.2 := by
  unfold scanP at h
  split at h
  · rename_i q
    obtain ⟨n, h1, h2, h3⟩ := capsR_yes q.2
    rw [scan_ok q.1 q.2, h3]
    refine ⟨?_, by simp only []; omega⟩
    obtain ⟨c1, c2⟩ := Sep.cut_some q.1
    unfold pieceS layS
    simp only [Int.toNat_natCast]
    rw [h2]
    conv => rhs; rw [c1]
    rw [List.append_assoc]; rfl
  · cases h
theorem text_parse {s : Bytes} (h : (parseP s).2 = 0) : textP (parseP s).1 = (s, 0) ∧ checkP (parseP s).1 = 0 ∧ ∀ x ∈ (parseP s).1, 0 ≤ x.2 := by
  by_cases e : s = []
  · subst e; rw [parse_nil]; exact ⟨rfl, rfl, fun x hx => by cases hx⟩
  · cases hf : fineS (splitC 44 s) with
    | false => rw [parse_bad e hf] at h; exact absurd h (by decide)
    | true =>
      by_cases hc : checkP (ruled (splitC 44 s)) = 0
      · rw [parse_ok e hf hc]
        have ha := List.all_eq_true.1 hf
        refine ⟨?_, hc, fun x hx => ?_⟩
        · rw [text_ok hc]
          refine Prod.ext ?_ rfl
          show textOf (ruled (splitC 44 s)) = s
          unfold textOf ruled
          rw [List.map_map]
          have : List.map (pieceS ∘ fun p => (scanP p).1) (splitC 44 s) = splitC 44 s := by
            conv => rhs; rw [← List.map_id (splitC 44 s)]
            exact List.map_congr_left fun p hp => (scan_piece (ha p hp)).1
          rw [this, Sep.join_split]
        · obtain ⟨p, hp, rfl⟩ := List.mem_map.1 hx
          exact (scan_piece (ha p hp)).2
      · rw [parse_no e hf hc] at h; exact absurd h hc
theorem longest_rng (path : Bytes) (l : List RuleV) : -1 ≤ longestS path (prefS l) ∧ longestS path (prefS l) < (l.length : Int) := by
  have := Under.long_lt path (prefS l) (prefS l).length
  rw [pref_len] at this
  unfold longestS
  rw [pref_len]; exact this
theorem check_len {l : List RuleV} (h : checkP l = 0) : l.length ≤ 4 := (check_may.1 h).1
theorem ok_len {l : List RuleV} (h : checkP l = 0) : ∀ x ∈ l, x.1.length ≤ 64 := by
  intro x hx
  rcases ((check_may.1 h).2.1 x hx).1 with e | e
  · rw [e]; simp
  · apply Classical.byContradiction
    intro hn
    rw [Route.check_big (by omega)] at e
    omega
theorem ok_at {l : List RuleV} (h : checkP l = 0) {k : Nat} (hk : k < l.length) : (List.getD l k ([], 0)).1.length ≤ 64 := ok_len h _ (Lib.getD_mem ([], 0) l k hk)
theorem text_take {l : List RuleV} (h : checkP l = 0) (k : Nat) : (textOf (List.take k l)).length ≤ 1000 := by
  have h1 := text_len (l := List.take k l) (n := 64) (fun x hx => ok_len h x (List.mem_of_mem_take hx))
  have h2 := check_len h
  have h3 : (List.take k l).length ≤ 4 := by rw [List.length_take]; omega
  have : (List.take k l).length * (64 + 8) ≤ 4 * (64 + 8) := Nat.mul_le_mul_right _ h3
  omega
theorem text_small {l : List RuleV} (h : checkP l = 0) : (joinC 44 (l.map pieceS)).length ≤ 1000 := by
  have := text_take h l.length
  rw [List.take_length] at this
  exact this
theorem textP_len (l : List RuleV) : (textP l).1.length ≤ 1000 := by
  by_cases h : checkP l = 0
  · rw [text_ok h]; have := text_take h l.length; rw [List.take_length] at this; exact this
  · rw [text_no h]; simp
theorem split_le (c : UInt8) (s : Bytes) : (splitC c s).length ≤ s.length + 1 := by
  have h1 := Sep.split_len c s
  have h2 : s.count c ≤ s.length := List.count_le_length
  omega
theorem covers_yes {a b : List RuleV} (ha : checkP a = 0) (hb : checkP b = 0) (h1 : coverS a b (prefS a) = true) (h2 : coverS a b (prefS b) = true) : coversS a b = true := by
  unfold coversS
  rw [decide_eq_true ha, decide_eq_true hb, cover_app, h1, h2]; rfl
theorem covers_bad {a b l : List RuleV} {k : Nat} (hl : l = a ∨ l = b) (hk : k < l.length) (h : allowsS b (List.getD l k ([], 0)).1 (capsP a (List.getD l k ([], 0)).1) = false) : coversS a b = false := by
  unfold coversS
  have hm : (List.getD l k ([], 0)).1 ∈ prefS a ++ prefS b := by
    have := mem_pref (Lib.getD_mem ([], 0) l k hk)
    rcases hl with rfl | rfl
    · exact List.mem_append_left _ this
    · exact List.mem_append_right _ this
  have : coverS a b (prefS a ++ prefS b) = false := by
    unfold coverS
    rw [List.all_eq_false]
    exact ⟨_, hm, by rw [show hasB (capsP b _) (capsP a _) = false from h]; decide⟩
  rw [this]; simp
theorem pref_take (l : List RuleV) (k : Nat) : prefS (List.take k l) = List.take k (prefS l) := by unfold prefS; rw [List.map_take]
theorem cover_next {a b l : List RuleV} {k : Nat} (hk : k < l.length) (hN : coverS a b (prefS (List.take k l)) = true) (h : allowsS b (List.getD l k ([], 0)).1 (capsP a (List.getD l k ([], 0)).1) = true) : coverS a b (prefS (List.take (k + 1) l)) = true := by
  rw [pref_take] at *
  refine cover_step (by rw [pref_len]; exact hk) hN ?_
  rw [pref_getD]; exact h
def overP (l : List RuleV) : Int := if 8 < l.length ∨ (l.any fun x => decide (100 < x.1.length)) = true then 1 else 0
theorem over_1 {l : List RuleV} (h : 8 < l.length) : overP l = 1 := if_pos (.inl h)
theorem over_2 {l : List RuleV} {k : Nat} (hk : k < l.length) (h : 100 < (List.getD l k ([], 0)).1.length) : overP l = 1 :=
  if_pos (.inr (List.any_eq_true.2 ⟨_, Lib.getD_mem ([], 0) l k hk, decide_eq_true h⟩))
def ShortTo (l : List RuleV) (k : Nat) : Prop := ∀ j, j < k → (List.getD l j ([], 0)).1.length ≤ 100
theorem short_step {l : List RuleV} {k : Nat} (hN : ShortTo l k) (h : ¬ 100 < (List.getD l k ([], 0)).1.length) : ShortTo l (k + 1) := by
  intro j hj
  rcases Nat.lt_or_ge j k with q | q
  · exact hN j q
  · rw [show j = k by omega]; omega
theorem over_0 {l : List RuleV} {k : Nat} (h8 : ¬ 8 < l.length) (hk : l.length ≤ k) (hN : ShortTo l k) : overP l = 0 := by
  refine if_neg fun h => ?_
  rcases h with h | h
  · exact h8 h
  · obtain ⟨x, hx, h2⟩ := List.any_eq_true.1 h
    obtain ⟨j, hj, rfl⟩ := List.mem_iff_getElem.1 hx
    have := hN j (by omega)
    rw [Lib.getD_lt _ _ _ hj] at this
    have := of_decide_eq_true h2
    omega
theorem over_ok {l : List RuleV} (h : ¬ 0 < overP l) : l.length ≤ 8 ∧ ∀ x ∈ l, x.1.length ≤ 100 := by
  unfold overP at h
  split at h
  · exact absurd h (by decide)
  · rename_i q
    rw [not_or] at q
    refine ⟨by omega, fun x hx => ?_⟩
    apply Classical.byContradiction
    intro hn
    exact q.2 (List.any_eq_true.2 ⟨x, hx, decide_eq_true (by omega)⟩)
def awl : List RuleV := [([116, 101, 97, 109], 19), ([116, 101, 97, 109, 47, 97, 112, 112], 1)]
theorem parse_textP {l : List RuleV} (h : (textP l).2 = 0) (h0 : ∀ x ∈ l, 0 ≤ x.2) : parseP (textP l).1 = (l, 0) := by
  rw [text_ok (text_may h)]; exact parse_text (text_may h) h0
def rotS (l : List RuleV) (q : Nat) : List RuleV := List.drop q l ++ List.take q l
theorem rot_perm (l : List RuleV) (q : Nat) : l.Perm (rotS l q) := by
  unfold rotS
  refine List.Perm.trans ?_ List.perm_append_comm
  rw [List.take_append_drop]
theorem rot_len (l : List RuleV) (q : Nat) : (rotS l q).length = l.length := (rot_perm l q).length_eq.symm
def fewS (path : Bytes) (b : List RuleV) (j : Nat) : List RuleV := ((List.drop j b).filter fun x => withinS path x.1).reverse
theorem few_len (path : Bytes) (b : List RuleV) (j : Nat) : (fewS path b j).length ≤ b.length := by
  unfold fewS
  rw [List.length_reverse]
  have := List.length_filter_le (fun x : RuleV => withinS path x.1) (List.drop j b)
  rw [List.length_drop] at this
  omega
end AL.Policy
namespace AL.Token
open Go AL
open AL.Policy (RuleV rowP slP checkP coversS capsP)
set_option linter.unusedVariables false
set_option linter.unusedSimpArgs false
abbrev TokV := Bytes × Bytes × List RuleV
def tokd : TokV := ([], [], [])
def rowT (x : TokV) (i : Nat) : SC := match i with | 0 => st x.1 | 1 => st x.2.1 | _ => slP x.2.2
abbrev slT (l : List TokV) : SC := .sl 3 TokV tokd rowT l
def rowTs (l : List TokV) (_ : Nat) : SC := slT l
def rowZt (_ : Unit) (i : Nat) : SC := match i with | 0 => st [] | 1 => st [] | _ => .nilsl
abbrev OpT := Bool × TokV
def opd : OpT := (false, tokd)
def rowO (x : OpT) (i : Nat) : SC := match i with | 0 => bo x.1 | 1 => st x.2.1 | 2 => st x.2.2.1 | _ => slP x.2.2.2
abbrev slO (l : List OpT) : SC := .sl 4 OpT opd rowO l
abbrev rootB : Bytes := [114, 111, 111, 116]
def firstT : TokV := (rootB, [], [([], 63)])
def checkT (t : TokV) : Int :=
  if Rows.namedS t.1 = false then 2 else if ¬ checkP t.2.2 = 0 then checkP t.2.2 else
  if (t.2.1 = [] ∧ t.1 = rootB) ∨ (Rows.namedS t.2.1 = true ∧ ¬ t.2.1 = t.1) then 0 else 2
theorem check_rules {t : TokV} (h : checkT t = 0) : checkP t.2.2 = 0 := by
  unfold checkT at h
  split at h
  · cases h
  · split at h
    · exact absurd h (by assumption)
    · exact Decidable.not_not.1 (by assumption)
theorem rules_le {l : List RuleV} (h : checkP l = 0) : l.length ≤ 4 := by
  unfold checkP at h
  split at h
  · cases h
  · omega
theorem check_le {t : TokV} (h : checkT t = 0) : t.2.2.length ≤ 4 := rules_le (check_rules h)
theorem same_tok {a b : TokV} : (((decide (a.1 = b.1)) && (decide (a.2.1 = b.2.1))) && (decide (a.2.2 = b.2.2))) = decide (a = b) := by
  rw [Bool.eq_iff_iff]
  simp only [Bool.and_eq_true, decide_eq_true_eq, Prod.ext_iff, and_assoc]
theorem named_key (s : Bytes) : decide (Rows.checkK ((3, s, 0) : Rows.KeyV) = 0) = Rows.namedS s := by
  rw [Bool.eq_iff_iff, decide_eq_true_eq, Rows.check_may]
  unfold Rows.MayK
  constructor
  · rintro (h | h | h | h)
    · exact absurd (show (3 : Int) = 1 from h.1) (by decide)
    · exact absurd (show (3 : Int) = 2 from h.1) (by decide)
    · exact h.2.1
    · exact h.1.elim (fun q => absurd (show (3 : Int) = 4 from q) (by decide)) (fun q => absurd (show (3 : Int) = 5 from q) (by decide))
  · intro h
    exact .inr (.inr (.inl ⟨rfl, h, rfl⟩))
def cmpS (a b : Bytes) : Int := if a < b then -1 else if b < a then 1 else 0
theorem cmp_lt {a b : Bytes} : cmpS a b < 0 ↔ a < b := by
  unfold cmpS
  split
  · rename_i h; exact ⟨fun _ => h, fun _ => by decide⟩
  · rename_i h
    split
    · exact ⟨fun q => absurd q (by decide), fun q => absurd q h⟩
    · exact ⟨fun q => absurd q (by decide), fun q => absurd q h⟩
theorem cmp_eq {a b : Bytes} : cmpS a b = 0 ↔ a = b := by
  unfold cmpS
  split
  · rename_i h; exact ⟨fun q => absurd q (by decide), fun q => absurd (q ▸ h) (List.lt_irrefl _)⟩
  · rename_i h
    split
    · rename_i h2; exact ⟨fun q => absurd q (by decide), fun q => absurd (q ▸ h2) (List.lt_irrefl _)⟩
    · rename_i h2
      refine ⟨fun _ => ?_, fun _ => rfl⟩
      by_cases e : a = b
      · exact e
      · exact absurd (Under.lt_of_not h e) h2
theorem cmp_1 {a b : Bytes} (h : Op.bytesLess a b = true) : cmpS a b = -1 := if_pos (by rw [Under.bl] at h; exact of_decide_eq_true h)
theorem cmp_2 {a b : Bytes} (h : Op.bytesLess a b = false) (h2 : ¬ a = b) : cmpS a b = 1 := by
  rw [Under.bl] at h
  unfold cmpS
  rw [if_neg (of_decide_eq_false h), if_pos (Under.lt_of_not (of_decide_eq_false h) h2)]
theorem cmp_3 {a b : Bytes} (h : Op.bytesLess a b = false) (h2 : Op.bytesLess a b = true ∨ a = b) : cmpS a b = 0 := by
  rcases h2 with h2 | h2
  · rw [h] at h2; cases h2
  · exact cmp_eq.2 h2
def SortT (l : List TokV) : Prop := l.Pairwise fun x y => x.1 < y.1
def locT (l : List TokV) (n : Bytes) : Nat := Lib.leadS (fun x => decide (cmpS x.1 n < 0)) l
theorem loc_le (l : List TokV) (n : Bytes) : locT l n ≤ l.length := Lib.lead_le _ l
theorem sort_ahead {l : List TokV} (h : SortT l) (n : Bytes) : Lib.Ahead (fun x : TokV => decide (cmpS x.1 n < 0)) l := by
  unfold SortT at h
  unfold Lib.Ahead
  refine h.imp fun {x y} hxy hy => ?_
  have := cmp_lt.1 (of_decide_eq_true hy)
  exact decide_eq_true (cmp_lt.2 (List.lt_trans hxy this))
def findT (l : List TokV) (n : Bytes) : Int := Lib.idxS (fun x => decide (x.1 = n)) l
theorem find_lt (l : List TokV) (n : Bytes) : -1 ≤ findT l n ∧ findT l n < l.length := ⟨Lib.idx_ge _ l, Lib.idx_lt _ l⟩
theorem find_no {l : List TokV} {n : Bytes} : findT l n < 0 ↔ ∀ x ∈ l, ¬ x.1 = n := by
  constructor
  · intro h x hx
    exact of_decide_eq_false (Lib.idx_neg h x hx)
  · intro h
    have := Lib.idx_none (p := fun x : TokV => decide (x.1 = n)) (l := l) fun x hx => decide_eq_false (h x hx)
    unfold findT
    omega
theorem find_at {l : List TokV} {n : Bytes} (h : 0 ≤ findT l n) : (List.getD l (findT l n).toNat tokd).1 = n ∧ List.getD l (findT l n).toNat tokd ∈ l := by
  have h1 := (Lib.idx_pos tokd h).1
  have h2 := find_lt l n
  exact ⟨of_decide_eq_true h1, Lib.getD_mem tokd l _ (by omega)⟩
theorem lead_all {p : TokV → Bool} {l : List TokV} {x : TokV} (h : x ∈ List.take (Lib.leadS p l) l) : p x = true := by
  unfold Lib.leadS at h
  rw [(List.prefix_iff_eq_take.1 (List.takeWhile_prefix p)).symm] at h
  exact Lib.takeWhile_all h
theorem lead_not {p : TokV → Bool} : ∀ {l : List TokV}, Lib.leadS p l < l.length → p (List.getD l (Lib.leadS p l) tokd) = false
  | [], h => by simp at h
  | x :: l, h => by
    unfold Lib.leadS at h ⊢
    rw [List.takeWhile_cons] at h ⊢
    split at h
    · rw [if_pos (by assumption), List.length_cons, List.getD_cons_succ]
      rw [List.length_cons, List.length_cons] at h
      exact lead_not (by unfold Lib.leadS; omega)
    · rw [if_neg (by assumption)]
      show p x = false
      simpa using ‹¬ p x = true›
theorem loc_take {l : List TokV} {n : Bytes} {x : TokV} (h : x ∈ List.take (locT l n) l) : x.1 < n := cmp_lt.1 (of_decide_eq_true (lead_all h))
theorem loc_drop {l : List TokV} (hs : SortT l) {n : Bytes} {x : TokV} (h : x ∈ List.drop (locT l n) l) : ¬ x.1 < n := by
  have hk := loc_le l n
  by_cases q : locT l n < l.length
  · have h1 := lead_not (p := fun x : TokV => decide (cmpS x.1 n < 0)) q
    have h2 := Lib.ahead_hi tokd (sort_ahead hs n) (locT l n) q h1 x h
    exact fun z => of_decide_eq_false h2 (cmp_lt.2 z)
  · rw [List.drop_of_length_le (by omega)] at h; cases h
theorem loc_find {l : List TokV} {n : Bytes} (hs : SortT l) (h : 0 ≤ findT l n) : findT l n = (locT l n : Int) := by
  have h1 := find_at h
  have h2 := find_lt l n
  have h3 := (Lib.idx_pos tokd h).2
  obtain ⟨k, hk⟩ := Int.eq_ofNat_of_zero_le h
  rw [hk] at h1 h2
  rw [Int.toNat_natCast] at h1
  have hk2 : k < l.length := by omega
  have : locT l n = k := Lib.lead_eq l k (by omega) (fun x hx => by
      unfold SortT at hs
      rw [Lib.take_cons tokd l k hk2] at hs
      have := (List.pairwise_append.1 hs).2.2 x hx _ (List.mem_cons_self ..)
      rw [h1.1] at this
      exact decide_eq_true (cmp_lt.2 this))
    (fun x hx => by
      rw [Lib.drop_cons tokd l k hk2] at hx
      rcases List.mem_cons.1 hx with rfl | hx
      · exact decide_eq_false (fun q => List.lt_irrefl _ (h1.1 ▸ cmp_lt.1 q))
      · unfold SortT at hs
        rw [Lib.take_cons tokd l k hk2] at hs
        have := (List.pairwise_cons.1 (List.pairwise_append.1 hs).2.1).1 x hx
        rw [h1.1] at this
        exact decide_eq_false (fun q => List.lt_irrefl _ (List.lt_trans this (cmp_lt.1 q))))
  rw [hk, this]
theorem find_loc {l : List TokV} {n : Bytes} (hs : SortT l) : (decide ((locT l n : Int) < (List.length l : Int)) && decide (cmpS (List.getD l (locT l n) tokd).1 n = 0)) = decide (0 ≤ findT l n) := by
  rw [Bool.eq_iff_iff]
  simp only [Bool.and_eq_true, decide_eq_true_eq]
  constructor
  · rintro ⟨h1, h2⟩
    rcases Int.lt_or_le (findT l n) 0 with q | q
    · exact absurd (cmp_eq.1 h2) (find_no.1 q _ (Lib.getD_mem tokd l _ (by omega)))
    · exact q
  · intro h
    have h1 := loc_find hs h
    have h2 := find_at h
    have h3 := find_lt l n
    rw [h1, Int.toNat_natCast] at h2
    exact ⟨by omega, cmp_eq.2 h2.1⟩
def intoT (l : List TokV) (t : TokV) : List TokV := List.take (locT l t.1) l ++ t :: List.drop (locT l t.1) l
theorem into_len (l : List TokV) (t : TokV) : (intoT l t).length = l.length + 1 := by
  have := loc_le l t.1
  unfold intoT
  simp only [List.length_append, List.length_cons, List.length_take, List.length_drop]
  omega
theorem into_mem {l : List TokV} {t x : TokV} : x ∈ intoT l t ↔ x = t ∨ x ∈ l := by
  unfold intoT
  rw [List.mem_append, List.mem_cons]
  conv => rhs; rw [← List.take_append_drop (locT l t.1) l, List.mem_append]
  constructor
  · rintro (h | h | h)
    · exact .inr (.inl h)
    · exact .inl h
    · exact .inr (.inr h)
  · rintro (h | h | h)
    · exact .inr (.inl h)
    · exact .inl h
    · exact .inr (.inr h)
theorem into_flat (l : List TokV) (t : TokV) : ([List.take (locT l t.1) l, [t], List.drop (locT l t.1) l] : List (List TokV)).flatten = intoT l t := by
  simp [intoT]
theorem into_sort {l : List TokV} {t : TokV} (hs : SortT l) (h : findT l t.1 < 0) : SortT (intoT l t) := by
  have hn := find_no.1 h
  unfold SortT intoT at *
  have ht := hs
  rw [← List.take_append_drop (locT l t.1) l] at ht
  obtain ⟨h1, h2, h3⟩ := List.pairwise_append.1 ht
  refine List.pairwise_append.2 ⟨h1, List.pairwise_cons.2 ⟨fun y hy => ?_, h2⟩, fun x hx y hy => ?_⟩
  · exact Under.lt_of_not (loc_drop hs hy) (hn y (List.mem_of_mem_drop hy))
  · rcases List.mem_cons.1 hy with rfl | hy
    · exact loc_take hx
    · exact h3 x hx y hy
def makeT (l : List TokV) (t : TokV) : List TokV × Int :=
  if ¬ checkT t = 0 then (l, checkT t) else if t.2.1 = [] then (l, 2) else if 0 ≤ findT l t.1 then (l, 20) else if findT l t.2.1 < 0 then (l, 6) else
  if coversS t.2.2 (List.getD l (findT l t.2.1).toNat tokd).2.2 = false then (l, 13) else (intoT l t, 0)
theorem make_1 {l : List TokV} {t : TokV} (h : ¬ checkT t = 0) : makeT l t = (l, checkT t) := if_pos h
theorem make_2 {l : List TokV} {t : TokV} (h : checkT t = 0) (h2 : t.2.1 = []) : makeT l t = (l, 2) := by unfold makeT; rw [if_neg (by simp [h]), if_pos h2]
theorem make_3 {l : List TokV} {t : TokV} (h : checkT t = 0) (h2 : ¬ t.2.1 = []) (h3 : 0 ≤ findT l t.1) : makeT l t = (l, 20) := by unfold makeT; rw [if_neg (by simp [h]), if_neg h2, if_pos h3]
theorem make_4 {l : List TokV} {t : TokV} (h : checkT t = 0) (h2 : ¬ t.2.1 = []) (h3 : ¬ 0 ≤ findT l t.1) (h4 : ¬ 0 ≤ findT l t.2.1) : makeT l t = (l, 6) := by unfold makeT; rw [if_neg (by simp [h]), if_neg h2, if_neg h3, if_pos (by omega)]
theorem make_5 {l : List TokV} {t : TokV} (h : checkT t = 0) (h2 : ¬ t.2.1 = []) (h3 : ¬ 0 ≤ findT l t.1) (h4 : 0 ≤ findT l t.2.1) (h5 : coversS t.2.2 (List.getD l (findT l t.2.1).toNat tokd).2.2 = false) : makeT l t = (l, 13) := by
  unfold makeT; rw [if_neg (by simp [h]), if_neg h2, if_neg h3, if_neg (by omega), if_pos h5]
theorem make_0 {l : List TokV} {t : TokV} (h : checkT t = 0) (h2 : ¬ t.2.1 = []) (h3 : ¬ 0 ≤ findT l t.1) (h4 : 0 ≤ findT l t.2.1) (h5 : coversS t.2.2 (List.getD l (findT l t.2.1).toNat tokd).2.2 = true) : makeT l t = (intoT l t, 0) := by
  unfold makeT; rw [if_neg (by simp [h]), if_neg h2, if_neg h3, if_neg (by omega), if_neg (by rw [h5]; decide)]
theorem at_loc {l : List TokV} {n : Bytes} (hs : SortT l) (h : 0 ≤ findT l n) : List.getD l (findT l n).toNat tokd = List.getD l (locT l n) tokd ∧ locT l n < l.length := by
  have h1 := loc_find hs h
  have h2 := find_lt l n
  rw [h1, Int.toNat_natCast]
  exact ⟨rfl, by omega⟩
def findR (l : List TokV) (n : Bytes) : TokV × Bool := if findT l n < 0 then (tokd, false) else (List.getD l (findT l n).toNat tokd, true)
def capsR (l : List TokV) (n p : Bytes) : Int := if findT l n < 0 then 0 else capsP (List.getD l (findT l n).toNat tokd).2.2 p
def namesT (l : List TokV) : List Bytes := l.map (·.1)
theorem names_step (l : List TokV) (k : Nat) (h : k < l.length) : namesT (List.take k l) ++ [(List.getD l k tokd).1] = namesT (List.take (k + 1) l) := by
  unfold namesT
  rw [Lib.take_succ tokd l k h, List.map_append]; rfl
theorem names_len (l : List TokV) : (namesT l).length = l.length := List.length_map _
def upS (l : List TokV) (n : Bytes) : Nat → TokV → Bool
  | 0, _ => false
  | k + 1, t => if t.1 = n then true else if findT l t.2.1 < 0 then false else upS l n k (List.getD l (findT l t.2.1).toNat tokd)
def goneS (l : List TokV) (t : TokV) (n : Bytes) : Bool := upS l n (l.length + 1) t
def leftT (l : List TokV) (n : Bytes) : List TokV := l.filter fun t => !(goneS l t n)
def goneT (l : List TokV) (n : Bytes) : List Bytes := namesT (l.filter fun t => goneS l t n)
def revokeT (l : List TokV) (n : Bytes) : List TokV × List Bytes × Int := if findT l n < 0 then (l, [], 6) else (leftT l n, goneT l n, 0)
def leftTo (l : List TokV) (n : Bytes) (k : Nat) : List TokV := (List.take k l).filter fun t => !(goneS l t n)
def goneTo (l : List TokV) (n : Bytes) (k : Nat) : List Bytes := namesT ((List.take k l).filter fun t => goneS l t n)
theorem left_y {l : List TokV} {n : Bytes} {k : Nat} (hk : k < l.length) (h : goneS l (List.getD l k tokd) n = true) : leftTo l n (k + 1) = leftTo l n k ∧ goneTo l n k ++ [(List.getD l k tokd).1] = goneTo l n (k + 1) := by
  unfold leftTo goneTo namesT
  rw [Lib.take_succ tokd l k hk, List.filter_append, List.filter_append, List.map_append]
  generalize List.getD l k tokd = x at h ⊢
  simp [h]
theorem left_n {l : List TokV} {n : Bytes} {k : Nat} (hk : k < l.length) (h : goneS l (List.getD l k tokd) n = false) : leftTo l n k ++ [List.getD l k tokd] = leftTo l n (k + 1) ∧ goneTo l n (k + 1) = goneTo l n k := by
  unfold leftTo goneTo namesT
  rw [Lib.take_succ tokd l k hk, List.filter_append, List.filter_append, List.map_append]
  generalize List.getD l k tokd = x at h ⊢
  simp [h]
theorem left_end {l : List TokV} {n : Bytes} {k : Nat} (hk : l.length ≤ k) : leftTo l n k = leftT l n ∧ goneTo l n k = goneT l n := by
  unfold leftTo goneTo leftT goneT
  rw [List.take_of_length_le hk]; exact ⟨rfl, rfl⟩
theorem left_len (l : List TokV) (n : Bytes) (k : Nat) : (leftTo l n k).length ≤ k ∧ (goneTo l n k).length ≤ k := by
  unfold leftTo goneTo namesT
  rw [List.length_map]
  exact ⟨Nat.le_trans (List.length_filter_le _ _) (by rw [List.length_take]; omega), Nat.le_trans (List.length_filter_le _ _) (by rw [List.length_take]; omega)⟩
def childT (n : Bytes) (t : TokV) : Bool := decide (t.2.1 = n) && !decide (t.1 = n)
def takeS (l : List TokV) : Nat → Bytes → List Bytes
  | 0, _ => []
  | f + 1, n => n :: (l.filter (childT n)).flatMap fun t => takeS l f t.1
def FitS (l : List TokV) : Nat → Bytes → Prop
  | 0, _ => False
  | f + 1, n => ∀ t ∈ l, childT n t = true → FitS l f t.1
def takeTo (l : List TokV) (f : Nat) (n : Bytes) (k : Nat) : List Bytes := ((List.take k l).filter (childT n)).flatMap fun t => takeS l f t.1
theorem take_0 (l : List TokV) (f : Nat) (n : Bytes) : takeTo l f n 0 = [] := by simp [takeTo]
theorem take_y {l : List TokV} {f : Nat} {n : Bytes} {k : Nat} (hk : k < l.length) (h : childT n (List.getD l k tokd) = true) : takeTo l f n (k + 1) = takeTo l f n k ++ takeS l f (List.getD l k tokd).1 := by
  unfold takeTo
  rw [Lib.take_succ tokd l k hk, List.filter_append, List.flatMap_append]
  generalize List.getD l k tokd = x at h ⊢
  simp [h]
theorem take_n {l : List TokV} {f : Nat} {n : Bytes} {k : Nat} (hk : k < l.length) (h : childT n (List.getD l k tokd) = false) : takeTo l f n (k + 1) = takeTo l f n k := by
  unfold takeTo
  rw [Lib.take_succ tokd l k hk, List.filter_append, List.flatMap_append]
  generalize List.getD l k tokd = x at h ⊢
  simp [h]
theorem take_end (l : List TokV) (f : Nat) (n : Bytes) {k : Nat} (hk : l.length ≤ k) : takeS l (f + 1) n = n :: takeTo l f n k := by
  unfold takeTo
  rw [List.take_of_length_le hk]; rfl
theorem take_mono (l : List TokV) (f : Nat) (n : Bytes) (k : Nat) : (takeTo l f n k).length + 1 ≤ (takeS l (f + 1) n).length := by
  have e : l.filter (childT n) = (List.take k l).filter (childT n) ++ (List.drop k l).filter (childT n) := by rw [← List.filter_append, List.take_append_drop]
  show _ ≤ (n :: (l.filter (childT n)).flatMap fun t => takeS l f t.1).length
  rw [e, List.flatMap_append, List.length_cons, List.length_append]
  unfold takeTo
  omega
theorem child_y {n : Bytes} {t : TokV} (h : t.2.1 = n ∧ ¬ t.1 = n) : childT n t = true := by unfold childT; simp [h.1, h.2]
theorem child_n {n : Bytes} {t : TokV} (h : ¬ t.2.1 = n ∨ t.1 = n) : childT n t = false := by
  unfold childT
  rcases h with h | h <;> simp [h]
end AL.Token
namespace AL.Route
open Go Go.Proofs AL AL.Rune
set_option linter.unusedVariables false
set_option linter.unusedSimpArgs false
theorem f171_body : Tryz.f171.body = some (.seq (.region 0 (rg Tryz.f171 0) false) (.seq (.block 0 (.seq (.seq (.region 1 (rg Tryz.f171 1) false) (.cond (.tmp 3) (.skip) (.seq (.region 2 (rg Tryz.f171 2) false) (.cond (.tmp 3) (.skip) (.region 3 (rg Tryz.f171 3) false))))) (.cond (.tmp 3) (.seq (.region 4 (rg Tryz.f171 4) false) (.ret)) (.seq (.seq (.region 5 (rg Tryz.f171 5) false) (.cond (.tmp 22) (.skip) (.seq (.region 6 (rg Tryz.f171 6) false) (.cond (.tmp 22) (.skip) (.region 7 (rg Tryz.f171 7) false))))) (.cond (.tmp 22) (.seq (.region 8 (rg Tryz.f171 8) false) (.ret)) (.skip)))))) (.seq (.region 9 (rg Tryz.f171 9) false) (.ret)))) := by kernel_rfl
set_option maxRecDepth 100000 in
set_option maxHeartbeats 8000000 in
theorem Rune_c (c : Int) : Pure Tryz.prog 171 [tc (i3 c)] (vc (bo (runeOk c))) := by
 refine Pure.of_body Tryz.func171 f171_body (by kernel_rfl) Tryz.ntmps171 (by kernel_rfl) (by kernel_rfl) ?_
 refine gS [] [] 35 [(0, vc (i3 c))] [] trivial ?_
 refine gQ ?_
 refine AMx.block ?_
 refine gQ ?_
 refine gS [] [((decide (97 ≤ c)) = true) → allP [(decide (97 ≤ c)) = true], (decide (97 ≤ c)) = true → allP [(decide (97 ≤ c)) = true]] 35 [(0, vc (i3 c)), (3, vc (bo ((decide (97 ≤ c)) && (decide (c ≤ 122)))))] [] ⟨(fun hp => hp), (fun hp2 => (by first | exact hp2 | exact ⟨hp, hp2⟩))⟩ ?_
 refine gB (((decide (97 ≤ c)) && (decide (c ≤ 122)))) (fun hc1 => ?_) fun hc1 => ?_
 ·
  try simp only [xT, xF, xA, xB] at hc1
  refine AMx.skip ?_
  refine gB (((decide (97 ≤ c)) && (decide (c ≤ 122)))) (fun hc2 => ?_) fun hc2 => ?_
  ·
   try simp only [xT, xF, xA, xB] at hc2
   refine gS [] [] 35 [(2, vc (bo true))] [] trivial ?_
   exact gT (vc (bo true)) (by rw [show runeOk c = true from by first | rfl | (unfold runeOk; rw [Bool.eq_iff_iff]; simp only [Bool.or_eq_true, Bool.and_eq_true, decide_eq_true_eq, iff_true, Bool.false_eq_true, iff_false] <;> omega)])
  ·
   try simp only [xT, xF, xA, xB] at hc2
   refine gQ ?_
   refine gS [] [] 35 [(0, vc (i3 c)), (22, vc (bo (decide (c = 45))))] [] trivial ?_
   refine gC (c = 45) (fun hc3 => ?_) fun hc3 => ?_
   ·
    refine AMx.skip ?_
    refine gC (c = 45) (fun hc4 => ?_) fun hc4 => ?_
    ·
     refine gS [] [] 35 [(2, vc (bo true))] [] trivial ?_
     exact gT (vc (bo true)) (by rw [show runeOk c = true from by first | rfl | (unfold runeOk; rw [Bool.eq_iff_iff]; simp only [Bool.or_eq_true, Bool.and_eq_true, decide_eq_true_eq, iff_true, Bool.false_eq_true, iff_false] <;> omega)])
    ·
     refine AMx.skip ?_
     refine AMx.blk ?_
     refine gS [] [((decide (192 ≤ c)) = true) → allP [(decide (192 ≤ c)) = true], (decide (192 ≤ c)) = true → allP [(decide (192 ≤ c)) = true]] 35 [(2, vc (bo ((decide (192 ≤ c)) && (decide (c ≤ 55295)))))] [] ⟨(fun hp => hp), (fun hp2 => (by first | exact hp2 | exact ⟨hp, hp2⟩))⟩ ?_
     exact gT (vc (bo ((decide (192 ≤ c)) && (decide (c ≤ 55295))))) (by rw [show runeOk c = ((decide (192 ≤ c)) && (decide (c ≤ 55295))) from by first | rfl | (unfold runeOk; rw [Bool.eq_iff_iff]; simp only [Bool.or_eq_true, Bool.and_eq_true, decide_eq_true_eq, iff_true, Bool.false_eq_true, iff_false] <;> omega)])
   ·
    refine gS [] [] 35 [(0, vc (i3 c)), (22, vc (bo (decide (c = 46))))] [] trivial ?_
    refine gC (c = 46) (fun hc5 => ?_) fun hc5 => ?_
    ·
     refine AMx.skip ?_
     refine gC (c = 46) (fun hc6 => ?_) fun hc6 => ?_
     ·
      refine gS [] [] 35 [(2, vc (bo true))] [] trivial ?_
      exact gT (vc (bo true)) (by rw [show runeOk c = true from by first | rfl | (unfold runeOk; rw [Bool.eq_iff_iff]; simp only [Bool.or_eq_true, Bool.and_eq_true, decide_eq_true_eq, iff_true, Bool.false_eq_true, iff_false] <;> omega)])
     ·
      refine AMx.skip ?_
      refine AMx.blk ?_
      refine gS [] [((decide (192 ≤ c)) = true) → allP [(decide (192 ≤ c)) = true], (decide (192 ≤ c)) = true → allP [(decide (192 ≤ c)) = true]] 35 [(2, vc (bo ((decide (192 ≤ c)) && (decide (c ≤ 55295)))))] [] ⟨(fun hp => hp), (fun hp2 => (by first | exact hp2 | exact ⟨hp, hp2⟩))⟩ ?_
      exact gT (vc (bo ((decide (192 ≤ c)) && (decide (c ≤ 55295))))) (by rw [show runeOk c = ((decide (192 ≤ c)) && (decide (c ≤ 55295))) from by first | rfl | (unfold runeOk; rw [Bool.eq_iff_iff]; simp only [Bool.or_eq_true, Bool.and_eq_true, decide_eq_true_eq, iff_true, Bool.false_eq_true, iff_false] <;> omega)])
    ·
     refine gR [] [] 35 [(0, vc (i3 c)), (22, vc (bo (decide (c = 95))))] [] trivial ?_
     refine gC (c = 95) (fun hc7 => ?_) fun hc7 => ?_
     ·
      refine gS [] [] 35 [(2, vc (bo true))] [] trivial ?_
      exact gT (vc (bo true)) (by rw [show runeOk c = true from by first | rfl | (unfold runeOk; rw [Bool.eq_iff_iff]; simp only [Bool.or_eq_true, Bool.and_eq_true, decide_eq_true_eq, iff_true, Bool.false_eq_true, iff_false] <;> omega)])
     ·
      refine AMx.skip ?_
      refine AMx.blk ?_
      refine gS [] [((decide (192 ≤ c)) = true) → allP [(decide (192 ≤ c)) = true], (decide (192 ≤ c)) = true → allP [(decide (192 ≤ c)) = true]] 35 [(2, vc (bo ((decide (192 ≤ c)) && (decide (c ≤ 55295)))))] [] ⟨(fun hp => hp), (fun hp2 => (by first | exact hp2 | exact ⟨hp, hp2⟩))⟩ ?_
      exact gT (vc (bo ((decide (192 ≤ c)) && (decide (c ≤ 55295))))) (by rw [show runeOk c = ((decide (192 ≤ c)) && (decide (c ≤ 55295))) from by first | rfl | (unfold runeOk; rw [Bool.eq_iff_iff]; simp only [Bool.or_eq_true, Bool.and_eq_true, decide_eq_true_eq, iff_true, Bool.false_eq_true, iff_false] <;> omega)])
 ·
  try simp only [xT, xF, xA, xB] at hc1
  refine gS [] [((decide (65 ≤ c)) = true) → allP [(decide (65 ≤ c)) = true], (decide (65 ≤ c)) = true → allP [(decide (65 ≤ c)) = true]] 35 [(0, vc (i3 c)), (3, vc (bo ((decide (65 ≤ c)) && (decide (c ≤ 90)))))] [] ⟨(fun hp => hp), (fun hp2 => (by first | exact hp2 | exact ⟨hp, hp2⟩))⟩ ?_
  refine gB (((decide (65 ≤ c)) && (decide (c ≤ 90)))) (fun hc8 => ?_) fun hc8 => ?_
  ·
   try simp only [xT, xF, xA, xB] at hc8
   refine AMx.skip ?_
   refine gB (((decide (65 ≤ c)) && (decide (c ≤ 90)))) (fun hc9 => ?_) fun hc9 => ?_
   ·
    try simp only [xT, xF, xA, xB] at hc9
    refine gS [] [] 35 [(2, vc (bo true))] [] trivial ?_
    exact gT (vc (bo true)) (by rw [show runeOk c = true from by first | rfl | (unfold runeOk; rw [Bool.eq_iff_iff]; simp only [Bool.or_eq_true, Bool.and_eq_true, decide_eq_true_eq, iff_true, Bool.false_eq_true, iff_false] <;> omega)])
   ·
    try simp only [xT, xF, xA, xB] at hc9
    refine gQ ?_
    refine gS [] [] 35 [(0, vc (i3 c)), (22, vc (bo (decide (c = 45))))] [] trivial ?_
    refine gC (c = 45) (fun hc10 => ?_) fun hc10 => ?_
    ·
     refine AMx.skip ?_
     refine gC (c = 45) (fun hc11 => ?_) fun hc11 => ?_
     ·
      refine gS [] [] 35 [(2, vc (bo true))] [] trivial ?_
      exact gT (vc (bo true)) (by rw [show runeOk c = true from by first | rfl | (unfold runeOk; rw [Bool.eq_iff_iff]; simp only [Bool.or_eq_true, Bool.and_eq_true, decide_eq_true_eq, iff_true, Bool.false_eq_true, iff_false] <;> omega)])
     ·
      refine AMx.skip ?_
      refine AMx.blk ?_
      refine gS [] [((decide (192 ≤ c)) = true) → allP [(decide (192 ≤ c)) = true], (decide (192 ≤ c)) = true → allP [(decide (192 ≤ c)) = true]] 35 [(2, vc (bo ((decide (192 ≤ c)) && (decide (c ≤ 55295)))))] [] ⟨(fun hp => hp), (fun hp2 => (by first | exact hp2 | exact ⟨hp, hp2⟩))⟩ ?_
      exact gT (vc (bo ((decide (192 ≤ c)) && (decide (c ≤ 55295))))) (by rw [show runeOk c = ((decide (192 ≤ c)) && (decide (c ≤ 55295))) from by first | rfl | (unfold runeOk; rw [Bool.eq_iff_iff]; simp only [Bool.or_eq_true, Bool.and_eq_true, decide_eq_true_eq, iff_true, Bool.false_eq_true, iff_false] <;> omega)])
    ·
     refine gS [] [] 35 [(0, vc (i3 c)), (22, vc (bo (decide (c = 46))))] [] trivial ?_
     refine gC (c = 46) (fun hc12 => ?_) fun hc12 => ?_
     ·
      refine AMx.skip ?_
      refine gC (c = 46) (fun hc13 => ?_) fun hc13 => ?_
      ·
       refine gS [] [] 35 [(2, vc (bo true))] [] trivial ?_
       exact gT (vc (bo true)) (by rw [show runeOk c = true from by first | rfl | (unfold runeOk; rw [Bool.eq_iff_iff]; simp only [Bool.or_eq_true, Bool.and_eq_true, decide_eq_true_eq, iff_true, Bool.false_eq_true, iff_false] <;> omega)])
      ·
       refine AMx.skip ?_
       refine AMx.blk ?_
       refine gS [] [((decide (192 ≤ c)) = true) → allP [(decide (192 ≤ c)) = true], (decide (192 ≤ c)) = true → allP [(decide (192 ≤ c)) = true]] 35 [(2, vc (bo ((decide (192 ≤ c)) && (decide (c ≤ 55295)))))] [] ⟨(fun hp => hp), (fun hp2 => (by first | exact hp2 | exact ⟨hp, hp2⟩))⟩ ?_
       exact gT (vc (bo ((decide (192 ≤ c)) && (decide (c ≤ 55295))))) (by rw [show runeOk c = ((decide (192 ≤ c)) && (decide (c ≤ 55295))) from by first | rfl | (unfold runeOk; rw [Bool.eq_iff_iff]; simp only [Bool.or_eq_true, Bool.and_eq_true, decide_eq_true_eq, iff_true, Bool.false_eq_true, iff_false] <;> omega)])
     ·
      refine gR [] [] 35 [(0, vc (i3 c)), (22, vc (bo (decide (c = 95))))] [] trivial ?_
      refine gC (c = 95) (fun hc14 => ?_) fun hc14 => ?_
      ·
       refine gS [] [] 35 [(2, vc (bo true))] [] trivial ?_
       exact gT (vc (bo true)) (by rw [show runeOk c = true from by first | rfl | (unfold runeOk; rw [Bool.eq_iff_iff]; simp only [Bool.or_eq_true, Bool.and_eq_true, decide_eq_true_eq, iff_true, Bool.false_eq_true, iff_false] <;> omega)])
      ·
       refine AMx.skip ?_
       refine AMx.blk ?_
       refine gS [] [((decide (192 ≤ c)) = true) → allP [(decide (192 ≤ c)) = true], (decide (192 ≤ c)) = true → allP [(decide (192 ≤ c)) = true]] 35 [(2, vc (bo ((decide (192 ≤ c)) && (decide (c ≤ 55295)))))] [] ⟨(fun hp => hp), (fun hp2 => (by first | exact hp2 | exact ⟨hp, hp2⟩))⟩ ?_
       exact gT (vc (bo ((decide (192 ≤ c)) && (decide (c ≤ 55295))))) (by rw [show runeOk c = ((decide (192 ≤ c)) && (decide (c ≤ 55295))) from by first | rfl | (unfold runeOk; rw [Bool.eq_iff_iff]; simp only [Bool.or_eq_true, Bool.and_eq_true, decide_eq_true_eq, iff_true, Bool.false_eq_true, iff_false] <;> omega)])
  ·
   try simp only [xT, xF, xA, xB] at hc8
   refine gR [] [((decide (48 ≤ c)) = true) → allP [(decide (48 ≤ c)) = true], (decide (48 ≤ c)) = true → allP [(decide (48 ≤ c)) = true]] 35 [(0, vc (i3 c)), (3, vc (bo ((decide (48 ≤ c)) && (decide (c ≤ 57)))))] [] ⟨(fun hp => hp), (fun hp2 => (by first | exact hp2 | exact ⟨hp, hp2⟩))⟩ ?_
   refine gB (((decide (48 ≤ c)) && (decide (c ≤ 57)))) (fun hc15 => ?_) fun hc15 => ?_
   ·
    try simp only [xT, xF, xA, xB] at hc15
    refine gS [] [] 35 [(2, vc (bo true))] [] trivial ?_
    exact gT (vc (bo true)) (by rw [show runeOk c = true from by first | rfl | (unfold runeOk; rw [Bool.eq_iff_iff]; simp only [Bool.or_eq_true, Bool.and_eq_true, decide_eq_true_eq, iff_true, Bool.false_eq_true, iff_false] <;> omega)])
   ·
    try simp only [xT, xF, xA, xB] at hc15
    refine gQ ?_
    refine gS [] [] 35 [(0, vc (i3 c)), (22, vc (bo (decide (c = 45))))] [] trivial ?_
    refine gC (c = 45) (fun hc16 => ?_) fun hc16 => ?_
    ·
     refine AMx.skip ?_
     refine gC (c = 45) (fun hc17 => ?_) fun hc17 => ?_
     ·
      refine gS [] [] 35 [(2, vc (bo true))] [] trivial ?_
      exact gT (vc (bo true)) (by rw [show runeOk c = true from by first | rfl | (unfold runeOk; rw [Bool.eq_iff_iff]; simp only [Bool.or_eq_true, Bool.and_eq_true, decide_eq_true_eq, iff_true, Bool.false_eq_true, iff_false] <;> omega)])
     ·
      refine AMx.skip ?_
      refine AMx.blk ?_
      refine gS [] [((decide (192 ≤ c)) = true) → allP [(decide (192 ≤ c)) = true], (decide (192 ≤ c)) = true → allP [(decide (192 ≤ c)) = true]] 35 [(2, vc (bo ((decide (192 ≤ c)) && (decide (c ≤ 55295)))))] [] ⟨(fun hp => hp), (fun hp2 => (by first | exact hp2 | exact ⟨hp, hp2⟩))⟩ ?_
      exact gT (vc (bo ((decide (192 ≤ c)) && (decide (c ≤ 55295))))) (by rw [show runeOk c = ((decide (192 ≤ c)) && (decide (c ≤ 55295))) from by first | rfl | (unfold runeOk; rw [Bool.eq_iff_iff]; simp only [Bool.or_eq_true, Bool.and_eq_true, decide_eq_true_eq, iff_true, Bool.false_eq_true, iff_false] <;> omega)])
    ·
     refine gS [] [] 35 [(0, vc (i3 c)), (22, vc (bo (decide (c = 46))))] [] trivial ?_
     refine gC (c = 46) (fun hc18 => ?_) fun hc18 => ?_
     ·
      refine AMx.skip ?_
      refine gC (c = 46) (fun hc19 => ?_) fun hc19 => ?_
      ·
       refine gS [] [] 35 [(2, vc (bo true))] [] trivial ?_
       exact gT (vc (bo true)) (by rw [show runeOk c = true from by first | rfl | (unfold runeOk; rw [Bool.eq_iff_iff]; simp only [Bool.or_eq_true, Bool.and_eq_true, decide_eq_true_eq, iff_true, Bool.false_eq_true, iff_false] <;> omega)])
      ·
       refine AMx.skip ?_
       refine AMx.blk ?_
       refine gS [] [((decide (192 ≤ c)) = true) → allP [(decide (192 ≤ c)) = true], (decide (192 ≤ c)) = true → allP [(decide (192 ≤ c)) = true]] 35 [(2, vc (bo ((decide (192 ≤ c)) && (decide (c ≤ 55295)))))] [] ⟨(fun hp => hp), (fun hp2 => (by first | exact hp2 | exact ⟨hp, hp2⟩))⟩ ?_
       exact gT (vc (bo ((decide (192 ≤ c)) && (decide (c ≤ 55295))))) (by rw [show runeOk c = ((decide (192 ≤ c)) && (decide (c ≤ 55295))) from by first | rfl | (unfold runeOk; rw [Bool.eq_iff_iff]; simp only [Bool.or_eq_true, Bool.and_eq_true, decide_eq_true_eq, iff_true, Bool.false_eq_true, iff_false] <;> omega)])
     ·
      refine gR [] [] 35 [(0, vc (i3 c)), (22, vc (bo (decide (c = 95))))] [] trivial ?_
      refine gC (c = 95) (fun hc20 => ?_) fun hc20 => ?_
      ·
       refine gS [] [] 35 [(2, vc (bo true))] [] trivial ?_
       exact gT (vc (bo true)) (by rw [show runeOk c = true from by first | rfl | (unfold runeOk; rw [Bool.eq_iff_iff]; simp only [Bool.or_eq_true, Bool.and_eq_true, decide_eq_true_eq, iff_true, Bool.false_eq_true, iff_false] <;> omega)])
      ·
       refine AMx.skip ?_
       refine AMx.blk ?_
       refine gS [] [((decide (192 ≤ c)) = true) → allP [(decide (192 ≤ c)) = true], (decide (192 ≤ c)) = true → allP [(decide (192 ≤ c)) = true]] 35 [(2, vc (bo ((decide (192 ≤ c)) && (decide (c ≤ 55295)))))] [] ⟨(fun hp => hp), (fun hp2 => (by first | exact hp2 | exact ⟨hp, hp2⟩))⟩ ?_
       exact gT (vc (bo ((decide (192 ≤ c)) && (decide (c ≤ 55295))))) (by rw [show runeOk c = ((decide (192 ≤ c)) && (decide (c ≤ 55295))) from by first | rfl | (unfold runeOk; rw [Bool.eq_iff_iff]; simp only [Bool.or_eq_true, Bool.and_eq_true, decide_eq_true_eq, iff_true, Bool.false_eq_true, iff_false] <;> omega)])
end AL.Route
namespace AL.Route
open Go Go.Proofs AL AL.Rune
set_option linter.unusedVariables false
set_option linter.unusedSimpArgs false
theorem f166_body : Tryz.f166.body = some (.seq (.region 0 (rg Tryz.f166 0) false) (.seq (.seq (.region 1 (rg Tryz.f166 1) false) (.cond (.tmp 19) (.seq (.region 2 (rg Tryz.f166 2) false) (.ret)) (.skip))) (.seq (.region 3 (rg Tryz.f166 3) false) (.seq (.seq (.region 4 (rg Tryz.f166 4) false) (.block 0 (.loop (.seq (.region 5 (rg Tryz.f166 5) false) (.seq (.cond (.tmp 23) (.skip) (.exit 0)) (.block 1 (.seq (.region 6 (rg Tryz.f166 6) false) (.seq (.seq (.region 7 (rg Tryz.f166 7) false) (.cond (.tmp 27) (.seq (.region 8 (rg Tryz.f166 8) false) (.ret)) (.skip))) (.region 9 (rg Tryz.f166 9) false))))))))) (.seq (.seq (.region 10 (rg Tryz.f166 10) false) (.cond (.tmp 31) (.seq (.region 11 (rg Tryz.f166 11) false) (.ret)) (.skip))) (.seq (.region 12 (rg Tryz.f166 12) false) (.ret))))))) := by kernel_rfl
set_option maxRecDepth 100000 in
set_option maxHeartbeats 8000000 in
theorem Part_c (s : Bytes) (hb : s.length ≤ 100000) : Pure Tryz.prog 166 [tc (st s)] (vc (i6 (partS s))) := by
 refine Pure.of_body Tryz.func166 f166_body (by kernel_rfl) Tryz.ntmps166 (by kernel_rfl) (by kernel_rfl) ?_
 refine gS [] [] 32 [(0, vc (st s))] [] trivial ?_
 refine gQ ?_
 refine gS [] [((decide (s = [])) = false) → allP [(decide (s = [])) = false], (decide (s = [])) = false → allP [(decide (s = [])) = false], (((decide (s = [])) || (decide (s = [46]))) = false) → allP [((decide (s = [])) || (decide (s = [46]))) = false], ((decide (s = [])) || (decide (s = [46]))) = false → allP [((decide (s = [])) || (decide (s = [46]))) = false], ((((decide (s = [])) || (decide (s = [46]))) || (decide (s = [46, 46]))) = false) → allP [(((decide (s = [])) || (decide (s = [46]))) || (decide (s = [46, 46]))) = false], (((decide (s = [])) || (decide (s = [46]))) || (decide (s = [46, 46]))) = false → allP [(((decide (s = [])) || (decide (s = [46]))) || (decide (s = [46, 46]))) = false]] 32 [(0, vc (st s)), (19, vc (bo ((((decide (s = [])) || (decide (s = [46]))) || (decide (s = [46, 46]))) || (decide (s = [45])))))] [] ⟨(fun hp => hp), (fun hp2 => (by first | exact hp2 | exact ⟨hp, hp2⟩)), (fun hp => hp), (fun hp2 => (by first | exact hp2 | exact ⟨hp, hp2⟩)), (fun hp => hp), (fun hp2 => (by first | exact hp2 | exact ⟨hp, hp2⟩))⟩ ?_
 refine gB (((((decide (s = [])) || (decide (s = [46]))) || (decide (s = [46, 46]))) || (decide (s = [45])))) (fun hc1 => ?_) fun hc1 => ?_
 ·
  try simp only [xT, xF, xO, xP] at hc1
  refine gS [] [] 32 [(2, vc (i6 4))] [] trivial ?_
  exact gT (vc (i6 4)) (by first | rw [part_1 (by simpa [or_assoc, and_assoc] using hc1)] | rw [part_2 (left_bad (by omega) hA (by assumption))])
 ·
  try simp only [xT, xF, xO, xP] at hc1
  refine AMx.skip ?_
  refine gS [] [] 32 [(0, vc (st s)), (3, vc (i6 0))] [] trivial ?_
  refine gQ ?_
  refine gS [] [] 32 [(3, vc (i6 0)), (21, vp 21 0)] [(21, AObj.iter s 0)] trivial ?_
  refine AMx.block ?_
  refine AMx.ent (s' := AS.lst 32 [(3, vc (i6 0)), (21, vp 21 0)] [(21, AObj.iter s 0)]) (ent_proj [3, 21] [21]) ?_
  refine AMx.loop (fun mm ss => ∃ (pos : Nat) (n : Nat), (pos ≤ s.length ∧ LeftAll s pos ∧ LeftN s pos n) ∧ mm = s.length - pos ∧ ss = AS.lst 32 [(3, vc (i6 (n : Int))), (21, vp 21 0)] [(21, AObj.iter s pos)]) ⟨0, 0, ?_, rfl, ?_⟩ ?_
  · exact ⟨Nat.zero_le _, left_0 s, leftN_0 s⟩
  · rfl
  rintro mm ss ⟨pos, n, ⟨hI, hA, hN⟩, rfl, rfl⟩
  refine gQ ?_
  rcases Nat.lt_or_ge pos (List.length s) with hn1 | hn1
  ·
   have hd1 := AL.Rune.dec_ok hn1
   refine gR [(0, CE.str [])] [pos < List.length s, ((pos : Nat) : Int) ≤ 9223372036854775807] 32 [(3, vc (i6 (n : Int))), (21, vp 21 0), (22, AV.tup [tc (bo true), tc (i6 (pos : Int)), tc (i3 ((decS s pos).1 : Int))]), (23, vc (bo true))] [(21, AObj.iter s (pos + (decS s pos).2))] ⟨(by first | omega | (have hz := leftN_le hN; omega)), (show ((pos : Nat) : Int) ≤ 9223372036854775807 from (by first | omega | (have hz := leftN_le hN; omega)))⟩ ?_
   refine gQ ?_
   refine gBt ?_
   refine AMx.skip ?_
   refine AMx.block ?_
   refine gS [] [] 32 [(3, vc (i6 (n : Int))), (5, vc (i3 ((decS s pos).1 : Int))), (21, vp 21 0)] [(21, AObj.iter s (pos + (decS s pos).2))] trivial ?_
   refine gQ ?_
   refine gS [(1, CE.call [] [] (vc (bo (runeOk ((decS s pos).1 : Int)))) [])] [Spec Tryz.prog 171 [tc (i3 ((decS s pos).1 : Int))] (ofH []) (vc (bo (runeOk ((decS s pos).1 : Int)))) (ofH [])] 32 [(3, vc (i6 (n : Int))), (21, vp 21 0), (27, vc (bo (!(runeOk ((decS s pos).1 : Int)))))] [(21, AObj.iter s (pos + (decS s pos).2))] (Rune_c ((decS s pos).1 : Int)) ?_
   refine gB (!(runeOk ((decS s pos).1 : Int))) (fun hc3 => ?_) fun hc3 => ?_
   ·
    try simp only [xT, xF, xN, xM] at hc3
    refine gS [] [] 32 [(2, vc (i6 4))] [] trivial ?_
    exact gT (vc (i6 4)) (by first | rw [part_1 (by simpa [or_assoc, and_assoc] using hc1)] | rw [part_2 (left_bad (by omega) hA (by assumption))])
   ·
    try simp only [xT, xF, xN, xM] at hc3
    refine AMx.skip ?_
    refine gR [] [InR .i64 ((n : Int) + 1)] 32 [(3, vc (i6 ((n : Int) + 1))), (21, vp 21 0)] [(21, AObj.iter s (pos + (decS s pos).2))] (show InR .i64 ((n : Int) + 1) from (inR64 (by first | omega | (have hz := leftN_le hN; omega)) (by first | omega | (have hz := leftN_le hN; omega)))) ?_
    refine AMx.blk ?_
    refine AMx.ent_inv (s' := AS.lst 32 [(3, vc (i6 ((n : Int) + 1))), (21, vp 21 0)] [(21, AObj.iter s (pos + (decS s pos).2))]) (ent_proj [3, 21] [21]) ?_
    refine AMx.inv ⟨_, ?_, pos + (decS s pos).2, n + 1, ?_, rfl, ?_⟩
    rotate_left
    · exact ⟨by omega, left_ok (by omega) hA (by assumption), leftN_step (by omega) hN⟩
    · rfl
    · omega
  ·
   refine gR [] [List.length s ≤ pos] 32 [(3, vc (i6 (n : Int))), (21, vp 21 0), (22, AV.tup [tc (bo false)]), (23, vc (bo false))] [(21, AObj.iter s pos)] (show List.length s ≤ pos from (by first | omega | (have hz := leftN_le hN; omega))) ?_
   refine gQ ?_
   refine gBf ?_
   refine AMx.exit ?_
   refine AMx.code_exit ?_
   refine AMx.inv_exit ?_
   refine AMx.blk_exit ?_
   refine gQ ?_
   refine gS [] [] 32 [(31, vc (bo (decide (12 < (n : Int)))))] [] trivial ?_
   refine gC (12 < (n : Int)) (fun hc5 => ?_) fun hc5 => ?_
   ·
    refine gS [] [] 32 [(2, vc (i6 5))] [] trivial ?_
    exact gT (vc (i6 5)) (by rw [part_3 (by simpa [or_assoc, and_assoc] using hc1) (left_end (by omega) hA) (by have := leftN_end (by omega) hN; omega)])
   ·
    refine AMx.skip ?_
    refine gS [] [] 32 [(2, vc (i6 0))] [] trivial ?_
    exact gT (vc (i6 0)) (by rw [part_4 (by simpa [or_assoc, and_assoc] using hc1) (left_end (by omega) hA) (by have := leftN_end (by omega) hN; omega)])
end AL.Route
namespace Go.Proofs
open Go.Shelf
def Tryz.lays169_ren : Go.Shelf.Ren := ⟨fun | 169 => 121 | n => n, fun | 70 => 175 | 9 => 9 | 0 => 0 | 72 => 177 | 37 => 104 | 127 => 203 | 3 => 3 | 5 => 5 | n => n, fun | n => n⟩
theorem Tryz.lays169 : Go.Proofs.Lays.n169 Tryz.prog Tryz.lays169_ren := {
  mixed := by kernel_rfl
  f169 := Tryz.func121.trans (congrArg some (by kernel_rfl))
  t0 := Tryz.underlying0
  a0 := Tryz.isAgg0
  z0 := Tryz.sizeOf0
  v0 := Tryz.zeroValue0
  t3 := Tryz.underlying3
  a3 := Tryz.isAgg3
  z3 := Tryz.sizeOf3
  v3 := Tryz.zeroValue3
  t9 := Tryz.underlying9
  a9 := Tryz.isAgg9
  z9 := Tryz.sizeOf9
  v9 := Tryz.zeroValue9
  t37 := Tryz.underlying104
  a37 := Tryz.isAgg104
  z37 := Tryz.sizeOf104
  v37 := Tryz.zeroValue104
  t70 := Tryz.underlying175
  a70 := Tryz.isAgg175
  z70 := Tryz.sizeOf175
  v70 := Tryz.zeroValue175
  t72 := Tryz.underlying177
  a72 := Tryz.isAgg177
  z72 := Tryz.sizeOf177
  v72 := Tryz.zeroValue177
  t127 := Tryz.underlying203
  a127 := Tryz.isAgg203
  z127 := Tryz.sizeOf203
  v127 := Tryz.zeroValue203 }
theorem Tryz.Builder_Extra_169 : Builder.Extra Tryz.prog Tryz.lays169_ren := {
  sizeBuilder := by kernel_rfl
  liesBuilder := by kernel_rfl
  t5 := Tryz.underlying5
  a5 := Tryz.isAgg5
  z5 := Tryz.sizeOf5
  v5 := Tryz.zeroValue5
  infoByte := by kernel_rfl
  cellsByte := by kernel_rfl
  sizeByte := by kernel_rfl
  neB5 := by decide }
def Tryz.lays156_ren : Go.Shelf.Ren := ⟨fun | 156 => 88 | 165 => 122 | 166 => 123 | 169 => 121 | 240 => 141 | 241 => 143 | 276 => 156 | 277 => 158 | n => n, fun | 31 => 44 | 9 => 9 | 3 => 3 | 4 => 4 | 0 => 0 | 20 => 20 | 72 => 177 | 76 => 180 | 70 => 175 | 37 => 104 | 75 => 179 | 127 => 203 | 164 => 213 | 5 => 5 | 80 => 182 | n => n, fun | n => n⟩
theorem Tryz.lays156 : Go.Proofs.Lays.n156 Tryz.prog Tryz.lays156_ren := {
  mixed := by kernel_rfl
  f156 := Tryz.func88.trans (congrArg some (by kernel_rfl))
  f165 := Tryz.func122.trans (congrArg some (by kernel_rfl))
  f166 := Tryz.func123.trans (congrArg some (by kernel_rfl))
  f169 := Tryz.func121.trans (congrArg some (by kernel_rfl))
  f240 := Tryz.func141.trans (congrArg some (by kernel_rfl))
  f241 := Tryz.func143.trans (congrArg some (by kernel_rfl))
  f276 := Tryz.func156.trans (congrArg some (by kernel_rfl))
  f277 := Tryz.func158.trans (congrArg some (by kernel_rfl))
  t0 := Tryz.underlying0
  a0 := Tryz.isAgg0
  z0 := Tryz.sizeOf0
  v0 := Tryz.zeroValue0
  t3 := Tryz.underlying3
  a3 := Tryz.isAgg3
  z3 := Tryz.sizeOf3
  v3 := Tryz.zeroValue3
  t4 := Tryz.underlying4
  a4 := Tryz.isAgg4
  z4 := Tryz.sizeOf4
  v4 := Tryz.zeroValue4
  t9 := Tryz.underlying9
  a9 := Tryz.isAgg9
  z9 := Tryz.sizeOf9
  v9 := Tryz.zeroValue9
  t20 := Tryz.underlying20
  a20 := Tryz.isAgg20
  z20 := Tryz.sizeOf20
  v20 := Tryz.zeroValue20
  t31 := Tryz.underlying44
  a31 := Tryz.isAgg44
  z31 := Tryz.sizeOf44
  v31 := Tryz.zeroValue44
  t37 := Tryz.underlying104
  a37 := Tryz.isAgg104
  z37 := Tryz.sizeOf104
  v37 := Tryz.zeroValue104
  t70 := Tryz.underlying175
  a70 := Tryz.isAgg175
  z70 := Tryz.sizeOf175
  v70 := Tryz.zeroValue175
  t72 := Tryz.underlying177
  a72 := Tryz.isAgg177
  z72 := Tryz.sizeOf177
  v72 := Tryz.zeroValue177
  t75 := Tryz.underlying179
  a75 := Tryz.isAgg179
  z75 := Tryz.sizeOf179
  v75 := Tryz.zeroValue179
  t76 := Tryz.underlying180
  a76 := Tryz.isAgg180
  z76 := Tryz.sizeOf180
  v76 := Tryz.zeroValue180
  t127 := Tryz.underlying203
  a127 := Tryz.isAgg203
  z127 := Tryz.sizeOf203
  v127 := Tryz.zeroValue203
  t164 := Tryz.underlying213
  a164 := Tryz.isAgg213
  z164 := Tryz.sizeOf213
  v164 := Tryz.zeroValue213 }
theorem Tryz.Builder_Extra_156 : Builder.Extra Tryz.prog Tryz.lays156_ren := {
  sizeBuilder := by kernel_rfl
  liesBuilder := by kernel_rfl
  t5 := Tryz.underlying5
  a5 := Tryz.isAgg5
  z5 := Tryz.sizeOf5
  v5 := Tryz.zeroValue5
  infoByte := by kernel_rfl
  cellsByte := by kernel_rfl
  sizeByte := by kernel_rfl
  neB5 := by decide }
open Go.RowKit in
theorem Tryz.strings_Join_none (a : Option Addr) (c : Nat) (sep : ByteArray) (w : World) :
    Calls Tryz.prog 88 #[.slice a 0 c, .string sep] w fun e w' => e = .returned (.string ⟨#[]⟩) ∧ w' = w := Any.strings_Join_none Tryz.lays156 Tryz.Builder_Extra_156 a c sep w
open Go.RowKit in
theorem Tryz.strings_Join (bk o c : Nat) (xs : List ByteArray) (sep : ByteArray) (w : World) (hcells : ∀ (j : Nat) x, xs[j]? = some x → w.cell? ⟨bk, o + j, none⟩ = some (.string x)) (hbk : bk < w.heap.size) (hN : xs.length ≤ 140737488355328) (hcap : xs.length ≤ c) (hlen : (Lib.join (xs.map (·.data.toList)) sep.data.toList).length ≤ 140737488355328) :
    Calls Tryz.prog 88 #[.slice (some ⟨bk, o, none⟩) xs.length c, .string sep] w fun e w' => e = .returned (.string ⟨(Lib.join (xs.map (·.data.toList)) sep.data.toList).toArray⟩) ∧ Below w.heap.size w w' := Any.strings_Join Tryz.lays156 Tryz.Builder_Extra_156 bk o c xs sep w hcells hbk hN hcap hlen
def Tryz.lays103_ren : Go.Shelf.Ren := ⟨fun | 103 => 167 | 210 => 172 | 206 => 173 | n => n, fun | 9 => 9 | 4 => 4 | 24 => 211 | 3 => 3 | n => n, fun | n => n⟩
theorem Tryz.lays103 : Go.Proofs.Lays.n103 Tryz.prog Tryz.lays103_ren := {
  mixed := by kernel_rfl
  f103 := Tryz.func167.trans (congrArg some (by kernel_rfl))
  f206 := Tryz.func173.trans (congrArg some (by kernel_rfl))
  f210 := Tryz.func172.trans (congrArg some (by kernel_rfl))
  t3 := Tryz.underlying3
  a3 := Tryz.isAgg3
  z3 := Tryz.sizeOf3
  v3 := Tryz.zeroValue3
  t4 := Tryz.underlying4
  a4 := Tryz.isAgg4
  z4 := Tryz.sizeOf4
  v4 := Tryz.zeroValue4
  t9 := Tryz.underlying9
  a9 := Tryz.isAgg9
  z9 := Tryz.sizeOf9
  v9 := Tryz.zeroValue9
  t24 := Tryz.underlying211
  a24 := Tryz.isAgg211
  z24 := Tryz.sizeOf211
  v24 := Tryz.zeroValue211 }
open Go.RowKit in
theorem Tryz.strings_CutPrefix (s p : ByteArray) (w : World) :
    Calls Tryz.prog 167 #[.string s, .string p] w fun e w' => e = .returned (.tuple #[.string ⟨(Lib.trimPrefix s.data.toList p.data.toList).toArray⟩, .bool (Lib.hasPrefix s.data.toList p.data.toList)]) ∧ w' = w := Any.strings_CutPrefix Tryz.lays103 s p w
open Go.RowKit in
theorem Tryz.Builder_String_any_k (B b : Nat) (l : List UInt8) (w : World) (h : Lib.IsBuilderF 177 5 B b (Lib.byteCells l) w) (hBw : B ≤ w.heap.size) :
    Calls Tryz.prog 121 #[.pointer (some ⟨b, 0, none⟩)] w fun e w' => e = .returned (.string ⟨l.toArray⟩) ∧ (Lib.IsBuilderF 177 5 B b (Lib.byteCells l) w' ∧ Below B w w' ∧ Lib.OthersKept 5 (some b) w w') := Any.Builder_String_any_k Tryz.lays169 Tryz.Builder_Extra_169 B b l w h hBw
def Tryz.lays219_ren : Go.Shelf.Ren := ⟨fun | 219 => 149 | 217 => 162 | 225 => 163 | 224 => 164 | 267 => 165 | 266 => 169 | 314 => 170 | n => n, fun | 9 => 9 | 3 => 3 | 4 => 4 | 5 => 5 | 46 => 129 | 146 => 220 | 51 => 171 | n => n, fun | 1 => 0 | n => n⟩
theorem Tryz.lays219 : Go.Proofs.Lays.n219 Tryz.prog Tryz.lays219_ren := {
  mixed := by kernel_rfl
  f217 := Tryz.func162.trans (congrArg some (by kernel_rfl))
  f219 := Tryz.func149.trans (congrArg some (by kernel_rfl))
  f224 := Tryz.func164.trans (congrArg some (by kernel_rfl))
  f225 := Tryz.func163.trans (congrArg some (by kernel_rfl))
  f266 := Tryz.func169.trans (congrArg some (by kernel_rfl))
  f267 := Tryz.func165.trans (congrArg some (by kernel_rfl))
  f314 := Tryz.func170.trans (congrArg some (by kernel_rfl))
  t3 := Tryz.underlying3
  a3 := Tryz.isAgg3
  z3 := Tryz.sizeOf3
  v3 := Tryz.zeroValue3
  t4 := Tryz.underlying4
  a4 := Tryz.isAgg4
  z4 := Tryz.sizeOf4
  v4 := Tryz.zeroValue4
  t5 := Tryz.underlying5
  a5 := Tryz.isAgg5
  z5 := Tryz.sizeOf5
  v5 := Tryz.zeroValue5
  t9 := Tryz.underlying9
  a9 := Tryz.isAgg9
  z9 := Tryz.sizeOf9
  v9 := Tryz.zeroValue9
  t46 := Tryz.underlying129
  a46 := Tryz.isAgg129
  z46 := Tryz.sizeOf129
  v46 := Tryz.zeroValue129
  t51 := Tryz.underlying171
  a51 := Tryz.isAgg171
  z51 := Tryz.sizeOf171
  v51 := Tryz.zeroValue171
  t146 := Tryz.underlying220
  a146 := Tryz.isAgg220
  z146 := Tryz.sizeOf220
  v146 := Tryz.zeroValue220
  g1 := by kernel_rfl }
open Go.RowKit Go.Lib in
theorem Tryz.stringslite_Index_one (s : ByteArray) (c : UInt8) (w : World) :
    Calls Tryz.prog 149 #[.string s, .string ⟨#[c]⟩] w fun e w' => e = .returned (.int .i64 (Lib.indexByte s.data.toList c)) ∧ w' = w := Any.stringslite_Index_one Tryz.lays219 s c w
def Tryz.lays143_ren : Go.Shelf.Ren := ⟨fun | 143 => 148 | 219 => 149 | 217 => 162 | 225 => 163 | 224 => 164 | 267 => 165 | 266 => 169 | 314 => 170 | n => n, fun | 9 => 9 | 3 => 3 | 4 => 4 | 5 => 5 | 46 => 129 | 146 => 220 | 51 => 171 | n => n, fun | 1 => 0 | n => n⟩
theorem Tryz.lays143 : Go.Proofs.Lays.n143 Tryz.prog Tryz.lays143_ren := {
  mixed := by kernel_rfl
  f143 := Tryz.func148.trans (congrArg some (by kernel_rfl))
  f217 := Tryz.func162.trans (congrArg some (by kernel_rfl))
  f219 := Tryz.func149.trans (congrArg some (by kernel_rfl))
  f224 := Tryz.func164.trans (congrArg some (by kernel_rfl))
  f225 := Tryz.func163.trans (congrArg some (by kernel_rfl))
  f266 := Tryz.func169.trans (congrArg some (by kernel_rfl))
  f267 := Tryz.func165.trans (congrArg some (by kernel_rfl))
  f314 := Tryz.func170.trans (congrArg some (by kernel_rfl))
  t3 := Tryz.underlying3
  a3 := Tryz.isAgg3
  z3 := Tryz.sizeOf3
  v3 := Tryz.zeroValue3
  t4 := Tryz.underlying4
  a4 := Tryz.isAgg4
  z4 := Tryz.sizeOf4
  v4 := Tryz.zeroValue4
  t5 := Tryz.underlying5
  a5 := Tryz.isAgg5
  z5 := Tryz.sizeOf5
  v5 := Tryz.zeroValue5
  t9 := Tryz.underlying9
  a9 := Tryz.isAgg9
  z9 := Tryz.sizeOf9
  v9 := Tryz.zeroValue9
  t46 := Tryz.underlying129
  a46 := Tryz.isAgg129
  z46 := Tryz.sizeOf129
  v46 := Tryz.zeroValue129
  t51 := Tryz.underlying171
  a51 := Tryz.isAgg171
  z51 := Tryz.sizeOf171
  v51 := Tryz.zeroValue171
  t146 := Tryz.underlying220
  a146 := Tryz.isAgg220
  z146 := Tryz.sizeOf220
  v146 := Tryz.zeroValue220
  g1 := by kernel_rfl }
open Go.RowKit Go.Lib in
theorem Tryz.strings_Index_one (s : ByteArray) (c : UInt8) (w : World) :
    Calls Tryz.prog 148 #[.string s, .string ⟨#[c]⟩] w fun e w' => e = .returned (.int .i64 (Lib.indexByte s.data.toList c)) ∧ w' = w := Any.strings_Index_one Tryz.lays143 s c w
def Tryz.lays138_ren : Go.Shelf.Ren := ⟨fun | 138 => 147 | 195 => 159 | 218 => 161 | 143 => 148 | 219 => 149 | 217 => 162 | 225 => 163 | 224 => 164 | 267 => 165 | 266 => 169 | 314 => 170 | n => n, fun | 9 => 9 | 3 => 3 | 4 => 4 | 5 => 5 | 0 => 0 | 46 => 129 | 146 => 220 | 51 => 171 | n => n, fun | 1 => 0 | n => n⟩
theorem Tryz.lays138 : Go.Proofs.Lays.n138 Tryz.prog Tryz.lays138_ren := {
  mixed := by kernel_rfl
  f138 := Tryz.func147.trans (congrArg some (by kernel_rfl))
  f143 := Tryz.func148.trans (congrArg some (by kernel_rfl))
  f195 := Tryz.func159.trans (congrArg some (by kernel_rfl))
  f217 := Tryz.func162.trans (congrArg some (by kernel_rfl))
  f218 := Tryz.func161.trans (congrArg some (by kernel_rfl))
  f219 := Tryz.func149.trans (congrArg some (by kernel_rfl))
  f224 := Tryz.func164.trans (congrArg some (by kernel_rfl))
  f225 := Tryz.func163.trans (congrArg some (by kernel_rfl))
  f266 := Tryz.func169.trans (congrArg some (by kernel_rfl))
  f267 := Tryz.func165.trans (congrArg some (by kernel_rfl))
  f314 := Tryz.func170.trans (congrArg some (by kernel_rfl))
  t0 := Tryz.underlying0
  a0 := Tryz.isAgg0
  z0 := Tryz.sizeOf0
  v0 := Tryz.zeroValue0
  t3 := Tryz.underlying3
  a3 := Tryz.isAgg3
  z3 := Tryz.sizeOf3
  v3 := Tryz.zeroValue3
  t4 := Tryz.underlying4
  a4 := Tryz.isAgg4
  z4 := Tryz.sizeOf4
  v4 := Tryz.zeroValue4
  t5 := Tryz.underlying5
  a5 := Tryz.isAgg5
  z5 := Tryz.sizeOf5
  v5 := Tryz.zeroValue5
  t9 := Tryz.underlying9
  a9 := Tryz.isAgg9
  z9 := Tryz.sizeOf9
  v9 := Tryz.zeroValue9
  t46 := Tryz.underlying129
  a46 := Tryz.isAgg129
  z46 := Tryz.sizeOf129
  v46 := Tryz.zeroValue129
  t51 := Tryz.underlying171
  a51 := Tryz.isAgg171
  z51 := Tryz.sizeOf171
  v51 := Tryz.zeroValue171
  t146 := Tryz.underlying220
  a146 := Tryz.isAgg220
  z146 := Tryz.sizeOf220
  v146 := Tryz.zeroValue220
  g1 := by kernel_rfl }
open Go.RowKit Go.Lib in
theorem Tryz.strings_Count_one (s : ByteArray) (c : UInt8) (w : World) :
    Calls Tryz.prog 147 #[.string s, .string ⟨#[c]⟩] w fun e w' => e = .returned (.int .i64 (Lib.countByte s.data.toList c)) ∧ w' = w := Any.strings_Count_one Tryz.lays138 s c w
def Tryz.lays190_ren : Go.Shelf.Ren := ⟨fun | 190 => 47 | 125 => 79 | 258 => 78 | 128 => 115 | 129 => 116 | 302 => 106 | 303 => 107 | 304 => 108 | 305 => 109 | 306 => 110 | 307 => 111 | 308 => 112 | 309 => 113 | 310 => 114 | 333 => 135 | 329 => 136 | 330 => 137 | 334 => 138 | 335 => 139 | 336 => 105 | 344 => 154 | n => n, fun | 31 => 44 | 9 => 9 | 3 => 3 | 46 => 129 | 0 => 0 | 51 => 171 | 53 => 140 | 4 => 4 | 183 => 165 | 182 => 164 | 131 => 86 | 5 => 5 | 218 => 196 | 222 => 200 | 228 => 209 | 229 => 193 | n => n, fun | n => n⟩
theorem Tryz.lays190 : Go.Proofs.Lays.n190 Tryz.prog Tryz.lays190_ren := {
  mixed := by kernel_rfl
  f125 := Tryz.func79.trans (congrArg some (by kernel_rfl))
  f128 := Tryz.func115.trans (congrArg some (by kernel_rfl))
  f129 := Tryz.func116.trans (congrArg some (by kernel_rfl))
  f190 := Tryz.func47.trans (congrArg some (by kernel_rfl))
  f258 := Tryz.func78.trans (congrArg some (by kernel_rfl))
  f302 := Tryz.func106.trans (congrArg some (by kernel_rfl))
  f303 := Tryz.func107.trans (congrArg some (by kernel_rfl))
  f304 := Tryz.func108.trans (congrArg some (by kernel_rfl))
  f305 := Tryz.func109.trans (congrArg some (by kernel_rfl))
  f306 := Tryz.func110.trans (congrArg some (by kernel_rfl))
  f307 := Tryz.func111.trans (congrArg some (by kernel_rfl))
  f308 := Tryz.func112.trans (congrArg some (by kernel_rfl))
  f309 := Tryz.func113.trans (congrArg some (by kernel_rfl))
  f310 := Tryz.func114.trans (congrArg some (by kernel_rfl))
  f329 := Tryz.func136.trans (congrArg some (by kernel_rfl))
  f330 := Tryz.func137.trans (congrArg some (by kernel_rfl))
  f333 := Tryz.func135.trans (congrArg some (by kernel_rfl))
  f334 := Tryz.func138.trans (congrArg some (by kernel_rfl))
  f335 := Tryz.func139.trans (congrArg some (by kernel_rfl))
  f336 := Tryz.func105.trans (congrArg some (by kernel_rfl))
  f344 := Tryz.func154.trans (congrArg some (by kernel_rfl))
  t0 := Tryz.underlying0
  a0 := Tryz.isAgg0
  z0 := Tryz.sizeOf0
  v0 := Tryz.zeroValue0
  t3 := Tryz.underlying3
  a3 := Tryz.isAgg3
  z3 := Tryz.sizeOf3
  v3 := Tryz.zeroValue3
  t4 := Tryz.underlying4
  a4 := Tryz.isAgg4
  z4 := Tryz.sizeOf4
  v4 := Tryz.zeroValue4
  t5 := Tryz.underlying5
  a5 := Tryz.isAgg5
  z5 := Tryz.sizeOf5
  v5 := Tryz.zeroValue5
  t9 := Tryz.underlying9
  a9 := Tryz.isAgg9
  z9 := Tryz.sizeOf9
  v9 := Tryz.zeroValue9
  t31 := Tryz.underlying44
  a31 := Tryz.isAgg44
  z31 := Tryz.sizeOf44
  v31 := Tryz.zeroValue44
  t46 := Tryz.underlying129
  a46 := Tryz.isAgg129
  z46 := Tryz.sizeOf129
  v46 := Tryz.zeroValue129
  t51 := Tryz.underlying171
  a51 := Tryz.isAgg171
  z51 := Tryz.sizeOf171
  v51 := Tryz.zeroValue171
  t53 := Tryz.underlying140
  a53 := Tryz.isAgg140
  z53 := Tryz.sizeOf140
  v53 := Tryz.zeroValue140
  t131 := Tryz.underlying86
  a131 := Tryz.isAgg86
  z131 := Tryz.sizeOf86
  v131 := Tryz.zeroValue86
  t182 := Tryz.underlying164
  a182 := Tryz.isAgg164
  z182 := Tryz.sizeOf164
  v182 := Tryz.zeroValue164
  t183 := Tryz.underlying165
  a183 := Tryz.isAgg165
  z183 := Tryz.sizeOf165
  v183 := Tryz.zeroValue165
  t218 := Tryz.underlying196
  a218 := Tryz.isAgg196
  z218 := Tryz.sizeOf196
  v218 := Tryz.zeroValue196
  t222 := Tryz.underlying200
  a222 := Tryz.isAgg200
  z222 := Tryz.sizeOf200
  v222 := Tryz.zeroValue200
  t228 := Tryz.underlying209
  a228 := Tryz.isAgg209
  z228 := Tryz.sizeOf209
  v228 := Tryz.zeroValue209
  t229 := Tryz.underlying193
  a229 := Tryz.isAgg193
  z229 := Tryz.sizeOf193
  v229 := Tryz.zeroValue193 }
open Go.Sort Go.RowKit in
theorem Tryz.slices_Sort_string (blk off cap : Nat) (ss : List (List UInt8)) (w : World) (hH : Holds encStr w blk off ss.toArray) (hblk : blk < w.heap.size) (hsz : ss.length < 4611686018427387904) :
    Calls Tryz.prog 47 #[.slice (some ⟨blk, off, none⟩) ss.length cap] w fun e w' =>
      e = .returned (.tuple #[]) ∧ ∃ n os, w' = grow (putRow encStr (Sort.ahead w n) blk off (ss.mergeSort fun x y => decide (x ≤ y)).toArray) os := Any.slices_Sort_string Tryz.lays190 blk off cap ss w hH hblk hsz
def Tryz.lays260_ren : Go.Shelf.Ren := ⟨fun | 260 => 168 | n => n, fun | 9 => 9 | 21 => 21 | 3 => 3 | 4 => 4 | 5 => 5 | 119 => 223 | 0 => 0 | 46 => 129 | 139 => 226 | 138 => 225 | n => n, fun | 3 => 1 | 4 => 2 | n => n⟩
theorem Tryz.lays260 : Go.Proofs.Lays.n260 Tryz.prog Tryz.lays260_ren := {
  mixed := by kernel_rfl
  f260 := Tryz.func168.trans (congrArg some (by kernel_rfl))
  t0 := Tryz.underlying0
  a0 := Tryz.isAgg0
  z0 := Tryz.sizeOf0
  v0 := Tryz.zeroValue0
  t3 := Tryz.underlying3
  a3 := Tryz.isAgg3
  z3 := Tryz.sizeOf3
  v3 := Tryz.zeroValue3
  t4 := Tryz.underlying4
  a4 := Tryz.isAgg4
  z4 := Tryz.sizeOf4
  v4 := Tryz.zeroValue4
  t5 := Tryz.underlying5
  a5 := Tryz.isAgg5
  z5 := Tryz.sizeOf5
  v5 := Tryz.zeroValue5
  t9 := Tryz.underlying9
  a9 := Tryz.isAgg9
  z9 := Tryz.sizeOf9
  v9 := Tryz.zeroValue9
  t21 := Tryz.underlying21
  a21 := Tryz.isAgg21
  z21 := Tryz.sizeOf21
  v21 := Tryz.zeroValue21
  t46 := Tryz.underlying129
  a46 := Tryz.isAgg129
  z46 := Tryz.sizeOf129
  v46 := Tryz.zeroValue129
  t119 := Tryz.underlying223
  a119 := Tryz.isAgg223
  z119 := Tryz.sizeOf223
  t138 := Tryz.underlying225
  a138 := Tryz.isAgg225
  z138 := Tryz.sizeOf225
  v138 := Tryz.zeroValue225
  t139 := Tryz.underlying226
  a139 := Tryz.isAgg226
  z139 := Tryz.sizeOf226
  v139 := Tryz.zeroValue226
  g3 := by kernel_rfl
  g4 := by kernel_rfl }
open Go.RowKit Go.Sort in
theorem Tryz.slices_Sort_string_none (p : Option Addr) (cap : Nat) (w : World) :
    Calls Tryz.prog 47 #[.slice p 0 cap] w fun e w' => e = .returned (.tuple #[]) ∧ w' = w := Any.slices_Sort_string_none Tryz.lays190 p cap w
end Go.Proofs
namespace AL.Route
open Go Go.Proofs Go.RowKit AL AL.Rune
set_option linter.unusedVariables false
set_option linter.unusedSimpArgs false
theorem Count_c (s : Bytes) : Pure Tryz.prog 147 [tc (st s), tc (st [47])] (vc (i6 ((s.count 47 : Nat) : Int))) := by
  refine Pure.of_calls ⟨_, Tryz.func147, by kernel_rfl, by kernel_rfl⟩ fun Γ w cargs hm => ?_
  obtain ⟨u, v, rfl, ⟨rfl, hu⟩, ⟨rfl, hv⟩⟩ := args2 hm
  refine (Tryz.strings_Count_one (ba s) 47 w).mono ?_
  rintro e w' ⟨rfl, rfl⟩
  have h1 : s.count 47 ≤ s.length := List.count_le_length
  simp only [maxLen] at hu
  exact ⟨_, rfl, rfl, rfl, inR64 (by omega) (by omega)⟩
theorem index_rng (s : Bytes) : -1 ≤ Go.Lib.indexByte s 47 ∧ Go.Lib.indexByte s 47 < (s.length : Int) := by
  refine ⟨Go.Lib.indexByte_ge s 47, ?_⟩
  by_cases h : 0 ≤ Go.Lib.indexByte s 47
  · have := (index_some h).1; omega
  · omega
theorem Index_c (s : Bytes) : Pure Tryz.prog 148 [tc (st s), tc (st [47])] (vc (i6 (Go.Lib.indexByte s 47))) := by
  refine Pure.of_calls ⟨_, Tryz.func148, by kernel_rfl, by kernel_rfl⟩ fun Γ w cargs hm => ?_
  obtain ⟨u, v, rfl, ⟨rfl, hu⟩, ⟨rfl, hv⟩⟩ := args2 hm
  refine (Tryz.strings_Index_one (ba s) 47 w).mono ?_
  rintro e w' ⟨rfl, rfl⟩
  have := index_rng s
  simp only [maxLen] at hu
  exact ⟨_, rfl, rfl, rfl, inR64 (by omega) (by omega)⟩
end AL.Route
namespace AL.Route
open Go Go.Proofs AL AL.Rune
set_option linter.unusedVariables false
set_option linter.unusedSimpArgs false
theorem f127_body : Tryz.f127.body = some (.seq (.region 0 (rg Tryz.f127 0) false) (.seq (.seq (.region 1 (rg Tryz.f127 1) false) (.cond (.tmp 13) (.seq (.region 2 (rg Tryz.f127 2) false) (.ret)) (.skip))) (.seq (.seq (.region 3 (rg Tryz.f127 3) false) (.cond (.tmp 15) (.seq (.region 4 (rg Tryz.f127 4) false) (.ret)) (.skip))) (.seq (.seq (.region 5 (rg Tryz.f127 5) false) (.cond (.tmp 20) (.region 6 (rg Tryz.f127 6) false) (.skip))) (.seq (.region 7 (rg Tryz.f127 7) false) (.seq (.region 8 (rg Tryz.f127 8) false) (.seq (.region 9 (rg Tryz.f127 9) false) (.seq (.region 10 (rg Tryz.f127 10) false) (.seq (.block 0 (.loop (.seq (.seq (.region 11 (rg Tryz.f127 11) false) (.cond (.tmp 36) (.skip) (.exit 0))) (.block 1 (.seq (.region 12 (rg Tryz.f127 12) false) (.seq (.seq (.region 13 (rg Tryz.f127 13) false) (.cond (.tmp 41) (.exit 0) (.skip))) (.seq (.region 14 (rg Tryz.f127 14) false) (.seq (.region 15 (rg Tryz.f127 15) false) (.region 16 (rg Tryz.f127 16) false))))))))) (.seq (.region 17 (rg Tryz.f127 17) false) (.seq (.region 18 (rg Tryz.f127 18) false) (.ret)))))))))))) := by kernel_rfl
set_option maxRecDepth 100000 in
set_option maxHeartbeats 8000000 in
theorem genSplit_c (s : Bytes) (hb : s.length ≤ 100000) : Pure Tryz.prog 127 [tc (st s), tc (st [47]), tc (i6 0), tc (i6 (-1))] (vc (AL.Fnv.slS (piecesS s))) := by
 refine Pure.of_body Tryz.func127 f127_body (by kernel_rfl) Tryz.ntmps127 (by kernel_rfl) (by kernel_rfl) ?_
 have hn := split_n s
 have hcn : List.count (47 : UInt8) s ≤ s.length := List.count_le_length
 refine gS [] [] 66 [(0, vc (st s)), (1, vc (st [47])), (2, vc (i6 0)), (3, vc (i6 (-1)))] [] trivial ?_
 refine gQ ?_
 refine gS [] [] 66 [(0, vc (st s)), (1, vc (st [47])), (2, vc (i6 0)), (3, vc (i6 (-1))), (13, vc (bo false))] [] trivial ?_
 refine gBf ?_
 refine AMx.skip ?_
 refine gQ ?_
 refine gS [] [] 66 [(0, vc (st s)), (1, vc (st [47])), (2, vc (i6 0)), (3, vc (i6 (-1))), (15, vc (bo false))] [] trivial ?_
 refine gBf ?_
 refine AMx.skip ?_
 refine gQ ?_
 refine gS [] [] 66 [(0, vc (st s)), (1, vc (st [47])), (2, vc (i6 0)), (3, vc (i6 (-1))), (20, vc (bo true))] [] trivial ?_
 refine gBt ?_
 refine gR [(2, CE.call [] [] (vc (i6 ((List.count (47 : UInt8) s : Nat) : Int))) [])] [Spec Tryz.prog 147 [tc (st s), tc (st [47])] (ofH []) (vc (i6 ((List.count (47 : UInt8) s : Nat) : Int))) (ofH []), InR .i64 (((List.count (47 : UInt8) s : Nat) : Int) + 1)] 66 [(0, vc (st s)), (1, vc (st [47])), (2, vc (i6 0)), (3, vc (i6 (((List.count (47 : UInt8) s : Nat) : Int) + 1)))] [] ⟨(Count_c s), (show InR .i64 (((List.count (47 : UInt8) s : Nat) : Int) + 1) from (inR64 (by first | omega | (have hx := index_rng c; first | omega | (simp only [List.length_cons, List.length_nil]; omega) | (have hz := split_le hP; first | omega | (simp only [List.length_append, List.length_replicate, List.length_set]; omega)))) (by first | omega | (have hx := index_rng c; first | omega | (simp only [List.length_cons, List.length_nil]; omega) | (have hz := split_le hP; first | omega | (simp only [List.length_append, List.length_replicate, List.length_set]; omega))))))⟩ ?_
 refine gS [] [InR .i64 ((List.length s : Int) + 1)] 66 [(0, vc (st s)), (1, vc (st [47])), (2, vc (i6 0)), (3, vc (i6 (min (((List.count (47 : UInt8) s : Nat) : Int) + 1) ((List.length s : Int) + 1))))] [] (show InR .i64 ((List.length s : Int) + 1) from (inR64 (by first | omega | (have hx := index_rng c; first | omega | (simp only [List.length_cons, List.length_nil]; omega) | (have hz := split_le hP; first | omega | (simp only [List.length_append, List.length_replicate, List.length_set]; omega)))) (by first | omega | (have hx := index_rng c; first | omega | (simp only [List.length_cons, List.length_nil]; omega) | (have hz := split_le hP; first | omega | (simp only [List.length_append, List.length_replicate, List.length_set]; omega)))))) ?_
 refine gS [(1, CE.obj (AObj.grow 9 1 Bytes [] AL.Fnv.rowS (List.replicate (min (((List.count (47 : UInt8) s : Nat) : Int) + 1) ((List.length s : Int) + 1)).toNat [])))] [0 ≤ min (((List.count (47 : UInt8) s : Nat) : Int) + 1) ((List.length s : Int) + 1), min (((List.count (47 : UInt8) s : Nat) : Int) + 1) ((List.length s : Int) + 1) ≤ min (((List.count (47 : UInt8) s : Nat) : Int) + 1) ((List.length s : Int) + 1), (16 : Int) * (min (((List.count (47 : UInt8) s : Nat) : Int) + 1) ((List.length s : Int) + 1)) ≤ 281474976710656, min (((List.count (47 : UInt8) s : Nat) : Int) + 1) ((List.length s : Int) + 1) ≤ 9223372036854775807, MakeC (min (((List.count (47 : UInt8) s : Nat) : Int) + 1) ((List.length s : Int) + 1)).toNat [.s (st [])] (AObj.grow 9 1 Bytes [] AL.Fnv.rowS (List.replicate (min (((List.count (47 : UInt8) s : Nat) : Int) + 1) ((List.length s : Int) + 1)).toNat []))] 66 [(0, vc (st s)), (1, vc (st [47])), (2, vc (i6 0)), (3, vc (i6 (min (((List.count (47 : UInt8) s : Nat) : Int) + 1) ((List.length s : Int) + 1)))), (9, vo 31)] [(31, AObj.grow 9 1 Bytes [] AL.Fnv.rowS (List.replicate (min (((List.count (47 : UInt8) s : Nat) : Int) + 1) ((List.length s : Int) + 1)).toNat []))] ⟨(by first | omega | (have hx := index_rng c; first | omega | (simp only [List.length_cons, List.length_nil]; omega) | (have hz := split_le hP; first | omega | (simp only [List.length_append, List.length_replicate, List.length_set]; omega)))), (by first | omega | (have hx := index_rng c; first | omega | (simp only [List.length_cons, List.length_nil]; omega) | (have hz := split_le hP; first | omega | (simp only [List.length_append, List.length_replicate, List.length_set]; omega)))), (by first | omega | (have hx := index_rng c; first | omega | (simp only [List.length_cons, List.length_nil]; omega) | (have hz := split_le hP; first | omega | (simp only [List.length_append, List.length_replicate, List.length_set]; omega)))), (by first | omega | (have hx := index_rng c; first | omega | (simp only [List.length_cons, List.length_nil]; omega) | (have hz := split_le hP; first | omega | (simp only [List.length_append, List.length_replicate, List.length_set]; omega)))), (⟨_, rfl, rfl⟩)⟩ ?_
 refine gS [] [InR .i64 ((min (((List.count (47 : UInt8) s : Nat) : Int) + 1) ((List.length s : Int) + 1)) - 1)] 66 [(0, vc (st s)), (1, vc (st [47])), (2, vc (i6 0)), (3, vc (i6 ((min (((List.count (47 : UInt8) s : Nat) : Int) + 1) ((List.length s : Int) + 1)) - 1))), (9, vo 31)] [(31, AObj.grow 9 1 Bytes [] AL.Fnv.rowS (List.replicate (min (((List.count (47 : UInt8) s : Nat) : Int) + 1) ((List.length s : Int) + 1)).toNat []))] (show InR .i64 ((min (((List.count (47 : UInt8) s : Nat) : Int) + 1) ((List.length s : Int) + 1)) - 1) from (inR64 (by first | omega | (have hx := index_rng c; first | omega | (simp only [List.length_cons, List.length_nil]; omega) | (have hz := split_le hP; first | omega | (simp only [List.length_append, List.length_replicate, List.length_set]; omega)))) (by first | omega | (have hx := index_rng c; first | omega | (simp only [List.length_cons, List.length_nil]; omega) | (have hz := split_le hP; first | omega | (simp only [List.length_append, List.length_replicate, List.length_set]; omega)))))) ?_
 refine gS [] [] 66 [(0, vc (st s)), (1, vc (st [47])), (2, vc (i6 0)), (3, vc (i6 ((min (((List.count (47 : UInt8) s : Nat) : Int) + 1) ((List.length s : Int) + 1)) - 1))), (9, vo 31), (10, vc (i6 0))] [(31, AObj.grow 9 1 Bytes [] AL.Fnv.rowS (List.replicate (min (((List.count (47 : UInt8) s : Nat) : Int) + 1) ((List.length s : Int) + 1)).toNat []))] trivial ?_
 refine gQ ?_
 refine AMx.block ?_
 refine AMx.ent (s' := AS.lst 66 [(0, vc (st s)), (1, vc (st [47])), (2, vc (i6 0)), (3, vc (i6 ((min (((List.count (47 : UInt8) s : Nat) : Int) + 1) ((List.length s : Int) + 1)) - 1))), (9, vo 31), (10, vc (i6 0))] [(31, AObj.grow 9 1 Bytes [] AL.Fnv.rowS (List.replicate (min (((List.count (47 : UInt8) s : Nat) : Int) + 1) ((List.length s : Int) + 1)).toNat []))]) (ent_proj [0, 1, 2, 3, 9, 10] [31]) ?_
 refine AMx.loop (fun mm ss => ∃ (o : List Bytes) (c : Bytes), (piecesS s = o ++ piecesS c ∧ c.length ≤ s.length) ∧ mm = c.length ∧ ss = AS.lst 66 [(0, vc (st c)), (1, vc (st [47])), (2, vc (i6 0)), (3, vc (i6 ((min (((List.count (47 : UInt8) s : Nat) : Int) + 1) ((List.length s : Int) + 1)) - 1))), (9, vo 31), (10, vc (i6 (List.length o : Int)))] [(31, AObj.grow 9 1 Bytes [] AL.Fnv.rowS (o ++ List.replicate (piecesS c).length []))]) ⟨[], s, ?_, rfl, ?_⟩ ?_
 · exact ⟨rfl, Nat.le_refl _⟩
 · rw [hn]; rfl
 rintro mm ss ⟨o, c, ⟨hP, hL⟩, rfl, rfl⟩
 refine gQ ?_
 refine gS [] [] 66 [(0, vc (st c)), (1, vc (st [47])), (2, vc (i6 0)), (3, vc (i6 ((min (((List.count (47 : UInt8) s : Nat) : Int) + 1) ((List.length s : Int) + 1)) - 1))), (9, vo 31), (10, vc (i6 (List.length o : Int))), (36, vc (bo (decide ((List.length o : Int) < (min (((List.count (47 : UInt8) s : Nat) : Int) + 1) ((List.length s : Int) + 1)) - 1))))] [(31, AObj.grow 9 1 Bytes [] AL.Fnv.rowS (o ++ List.replicate (piecesS c).length []))] trivial ?_
 refine gC ((List.length o : Int) < (min (((List.count (47 : UInt8) s : Nat) : Int) + 1) ((List.length s : Int) + 1)) - 1) (fun hc4 => ?_) fun hc4 => ?_
 ·
  refine AMx.skip ?_
  refine AMx.block ?_
  refine gS [(2, CE.call [] [] (vc (i6 (Go.Lib.indexByte c 47))) [])] [Spec Tryz.prog 148 [tc (st c), tc (st [47])] (ofH []) (vc (i6 (Go.Lib.indexByte c 47))) (ofH [])] 66 [(0, vc (st c)), (1, vc (st [47])), (2, vc (i6 0)), (3, vc (i6 ((min (((List.count (47 : UInt8) s : Nat) : Int) + 1) ((List.length s : Int) + 1)) - 1))), (9, vo 31), (10, vc (i6 (List.length o : Int))), (11, vc (i6 (Go.Lib.indexByte c 47)))] [(31, AObj.grow 9 1 Bytes [] AL.Fnv.rowS (o ++ List.replicate (piecesS c).length []))] (Index_c c) ?_
  refine gQ ?_
  refine gS [] [] 66 [(0, vc (st c)), (1, vc (st [47])), (2, vc (i6 0)), (3, vc (i6 ((min (((List.count (47 : UInt8) s : Nat) : Int) + 1) ((List.length s : Int) + 1)) - 1))), (9, vo 31), (10, vc (i6 (List.length o : Int))), (11, vc (i6 (Go.Lib.indexByte c 47))), (41, vc (bo (decide (Go.Lib.indexByte c 47 < 0))))] [(31, AObj.grow 9 1 Bytes [] AL.Fnv.rowS (o ++ List.replicate (piecesS c).length []))] trivial ?_
  refine gC (Go.Lib.indexByte c 47 < 0) (fun hc5 => ?_) fun hc5 => ?_
  ·
   refine AMx.exit ?_
   refine AMx.code_exit ?_
   refine AMx.blk_pass rfl ?_
   refine AMx.inv_exit ?_
   refine AMx.blk_exit ?_
   refine gS [(4, CE.obj (AObj.grow 9 1 Bytes [] AL.Fnv.rowS (List.set (o ++ List.replicate (piecesS c).length []) (List.length o) c)))] [(0 : Int) ≤ (List.length o : Int), (List.length o : Int) < List.length (o ++ List.replicate (piecesS c).length [] : List Bytes), StoreC (List.length o) 0 [.s (st c)] (AObj.grow 9 1 Bytes [] AL.Fnv.rowS (o ++ List.replicate (piecesS c).length [])) (AObj.grow 9 1 Bytes [] AL.Fnv.rowS (List.set (o ++ List.replicate (piecesS c).length []) (List.length o) c))] 66 [(9, vo 31), (10, vc (i6 (List.length o : Int)))] [(31, AObj.grow 9 1 Bytes [] AL.Fnv.rowS (List.set (o ++ List.replicate (piecesS c).length []) (List.length o) c))] ⟨(by first | omega | (have hx := index_rng c; first | omega | (simp only [List.length_cons, List.length_nil]; omega) | (have hz := split_le hP; first | omega | (simp only [List.length_append, List.length_replicate, List.length_set]; omega)))), (by first | omega | (have hx := index_rng c; first | omega | (simp only [List.length_cons, List.length_nil]; omega) | (have hz := split_le hP; first | omega | (simp only [List.length_append, List.length_replicate, List.length_set]; omega)))), (⟨c, rfl, by first | omega | (have hx := index_rng c; first | omega | (simp only [List.length_cons, List.length_nil]; omega) | (have hz := split_le hP; first | omega | (simp only [List.length_append, List.length_replicate, List.length_set]; omega))), rfl⟩)⟩ ?_
   refine gS [] [InR .i64 ((List.length o : Int) + 1), 0 ≤ (List.length o : Int) + 1, (List.length o : Int) + 1 ≤ (List.length (List.set (o ++ List.replicate (piecesS c).length []) (List.length o) c : List Bytes) : Int)] 66 [(8, vo 65)] [(65, AObj.grow 9 1 Bytes [] AL.Fnv.rowS (List.take ((List.length o) + 1) (List.set (o ++ List.replicate (piecesS c).length []) (List.length o) c)))] ⟨(inR64 (by first | omega | (have hx := index_rng c; first | omega | (simp only [List.length_cons, List.length_nil]; omega) | (have hz := split_le hP; first | omega | (simp only [List.length_append, List.length_replicate, List.length_set]; omega)))) (by first | omega | (have hx := index_rng c; first | omega | (simp only [List.length_cons, List.length_nil]; omega) | (have hz := split_le hP; first | omega | (simp only [List.length_append, List.length_replicate, List.length_set]; omega))))), (by first | omega | (have hx := index_rng c; first | omega | (simp only [List.length_cons, List.length_nil]; omega) | (have hz := split_le hP; first | omega | (simp only [List.length_append, List.length_replicate, List.length_set]; omega)))), (show (List.length o : Int) + 1 ≤ (List.length (List.set (o ++ List.replicate (piecesS c).length []) (List.length o) c : List Bytes) : Int) from (by first | omega | (have hx := index_rng c; first | omega | (simp only [List.length_cons, List.length_nil]; omega) | (have hz := split_le hP; first | omega | (simp only [List.length_append, List.length_replicate, List.length_set]; omega)))))⟩ ?_
   refine AMx.ent (s' := AS.lst 66 [(8, vc (AL.Fnv.slS (List.take ((List.length o) + 1) (List.set (o ++ List.replicate (piecesS c).length []) (List.length o) c))))] []) (ent_freeze (id := 65) (T := 9) (by kernel_rfl)) ?_
   exact gT (vc (AL.Fnv.slS (List.take ((List.length o) + 1) (List.set (o ++ List.replicate (piecesS c).length []) (List.length o) c)))) (by rw [split_end hP (by first | exact index_none (by omega) | exact split_last hP (by omega))])
  ·
   refine AMx.skip ?_
   refine gS [(8, CE.obj (AObj.grow 9 1 Bytes [] AL.Fnv.rowS (List.set (o ++ List.replicate (piecesS c).length []) (List.length o) (List.take ((Go.Lib.indexByte c 47) + 0).toNat c))))] [InR .i64 ((Go.Lib.indexByte c 47) + 0), 0 ≤ (Go.Lib.indexByte c 47) + 0, (Go.Lib.indexByte c 47) + 0 ≤ List.length c, (0 : Int) ≤ (List.length o : Int), (List.length o : Int) < List.length (o ++ List.replicate (piecesS c).length [] : List Bytes), StoreC (List.length o) 0 [.s (st (List.take ((Go.Lib.indexByte c 47) + 0).toNat c))] (AObj.grow 9 1 Bytes [] AL.Fnv.rowS (o ++ List.replicate (piecesS c).length [])) (AObj.grow 9 1 Bytes [] AL.Fnv.rowS (List.set (o ++ List.replicate (piecesS c).length []) (List.length o) (List.take ((Go.Lib.indexByte c 47) + 0).toNat c)))] 66 [(0, vc (st c)), (1, vc (st [47])), (2, vc (i6 0)), (3, vc (i6 ((min (((List.count (47 : UInt8) s : Nat) : Int) + 1) ((List.length s : Int) + 1)) - 1))), (9, vo 31), (10, vc (i6 (List.length o : Int))), (11, vc (i6 (Go.Lib.indexByte c 47)))] [(31, AObj.grow 9 1 Bytes [] AL.Fnv.rowS (List.set (o ++ List.replicate (piecesS c).length []) (List.length o) (List.take ((Go.Lib.indexByte c 47) + 0).toNat c)))] ⟨(inR64 (by first | omega | (have hx := index_rng c; first | omega | (simp only [List.length_cons, List.length_nil]; omega) | (have hz := split_le hP; first | omega | (simp only [List.length_append, List.length_replicate, List.length_set]; omega)))) (by first | omega | (have hx := index_rng c; first | omega | (simp only [List.length_cons, List.length_nil]; omega) | (have hz := split_le hP; first | omega | (simp only [List.length_append, List.length_replicate, List.length_set]; omega))))), (by first | omega | (have hx := index_rng c; first | omega | (simp only [List.length_cons, List.length_nil]; omega) | (have hz := split_le hP; first | omega | (simp only [List.length_append, List.length_replicate, List.length_set]; omega)))), (by first | omega | (have hx := index_rng c; first | omega | (simp only [List.length_cons, List.length_nil]; omega) | (have hz := split_le hP; first | omega | (simp only [List.length_append, List.length_replicate, List.length_set]; omega)))), (by first | omega | (have hx := index_rng c; first | omega | (simp only [List.length_cons, List.length_nil]; omega) | (have hz := split_le hP; first | omega | (simp only [List.length_append, List.length_replicate, List.length_set]; omega)))), (by first | omega | (have hx := index_rng c; first | omega | (simp only [List.length_cons, List.length_nil]; omega) | (have hz := split_le hP; first | omega | (simp only [List.length_append, List.length_replicate, List.length_set]; omega)))), (⟨List.take ((Go.Lib.indexByte c 47) + 0).toNat c, rfl, by first | omega | (have hx := index_rng c; first | omega | (simp only [List.length_cons, List.length_nil]; omega) | (have hz := split_le hP; first | omega | (simp only [List.length_append, List.length_replicate, List.length_set]; omega))), rfl⟩)⟩ ?_
   refine gS [] [InR .i64 ((Go.Lib.indexByte c 47) + (List.length ([47] : List UInt8) : Int)), 0 ≤ (Go.Lib.indexByte c 47) + (List.length ([47] : List UInt8) : Int), (Go.Lib.indexByte c 47) + (List.length ([47] : List UInt8) : Int) ≤ List.length c] 66 [(0, vc (st (List.drop ((Go.Lib.indexByte c 47) + (List.length ([47] : List UInt8) : Int)).toNat c))), (1, vc (st [47])), (2, vc (i6 0)), (3, vc (i6 ((min (((List.count (47 : UInt8) s : Nat) : Int) + 1) ((List.length s : Int) + 1)) - 1))), (9, vo 31), (10, vc (i6 (List.length o : Int)))] [(31, AObj.grow 9 1 Bytes [] AL.Fnv.rowS (List.set (o ++ List.replicate (piecesS c).length []) (List.length o) (List.take ((Go.Lib.indexByte c 47) + 0).toNat c)))] ⟨(inR64 (by first | omega | (have hx := index_rng c; first | omega | (simp only [List.length_cons, List.length_nil]; omega) | (have hz := split_le hP; first | omega | (simp only [List.length_append, List.length_replicate, List.length_set]; omega)))) (by first | omega | (have hx := index_rng c; first | omega | (simp only [List.length_cons, List.length_nil]; omega) | (have hz := split_le hP; first | omega | (simp only [List.length_append, List.length_replicate, List.length_set]; omega))))), (by first | omega | (have hx := index_rng c; first | omega | (simp only [List.length_cons, List.length_nil]; omega) | (have hz := split_le hP; first | omega | (simp only [List.length_append, List.length_replicate, List.length_set]; omega)))), (show (Go.Lib.indexByte c 47) + (List.length ([47] : List UInt8) : Int) ≤ List.length c from (by first | omega | (have hx := index_rng c; first | omega | (simp only [List.length_cons, List.length_nil]; omega) | (have hz := split_le hP; first | omega | (simp only [List.length_append, List.length_replicate, List.length_set]; omega)))))⟩ ?_
   refine gR [] [InR .i64 ((List.length o : Int) + 1)] 66 [(0, vc (st (List.drop ((Go.Lib.indexByte c 47) + (List.length ([47] : List UInt8) : Int)).toNat c))), (1, vc (st [47])), (2, vc (i6 0)), (3, vc (i6 ((min (((List.count (47 : UInt8) s : Nat) : Int) + 1) ((List.length s : Int) + 1)) - 1))), (9, vo 31), (10, vc (i6 ((List.length o : Int) + 1)))] [(31, AObj.grow 9 1 Bytes [] AL.Fnv.rowS (List.set (o ++ List.replicate (piecesS c).length []) (List.length o) (List.take ((Go.Lib.indexByte c 47) + 0).toNat c)))] (show InR .i64 ((List.length o : Int) + 1) from (inR64 (by first | omega | (have hx := index_rng c; first | omega | (simp only [List.length_cons, List.length_nil]; omega) | (have hz := split_le hP; first | omega | (simp only [List.length_append, List.length_replicate, List.length_set]; omega)))) (by first | omega | (have hx := index_rng c; first | omega | (simp only [List.length_cons, List.length_nil]; omega) | (have hz := split_le hP; first | omega | (simp only [List.length_append, List.length_replicate, List.length_set]; omega)))))) ?_
   refine AMx.blk ?_
   refine AMx.ent_inv (s' := AS.lst 66 [(0, vc (st (List.drop ((Go.Lib.indexByte c 47) + (List.length ([47] : List UInt8) : Int)).toNat c))), (1, vc (st [47])), (2, vc (i6 0)), (3, vc (i6 ((min (((List.count (47 : UInt8) s : Nat) : Int) + 1) ((List.length s : Int) + 1)) - 1))), (9, vo 31), (10, vc (i6 ((List.length o : Int) + 1)))] [(31, AObj.grow 9 1 Bytes [] AL.Fnv.rowS (List.set (o ++ List.replicate (piecesS c).length []) (List.length o) (List.take ((Go.Lib.indexByte c 47) + 0).toNat c)))]) (ent_proj [0, 1, 2, 3, 9, 10] [31]) ?_
   refine AMx.inv ⟨_, ?_, o ++ [List.take (Go.Lib.indexByte c 47).toNat c], List.drop ((Go.Lib.indexByte c 47).toNat + 1) c, ?_, rfl, ?_⟩
   rotate_left
   · exact ⟨split_inv hP (by omega), by rw [List.length_drop]; omega⟩
   · rw [show (Go.Lib.indexByte c 47 + (0 : Int)).toNat = (Go.Lib.indexByte c 47).toNat by omega, show (Go.Lib.indexByte c 47 + (List.length ([47] : List UInt8) : Int)).toNat = (Go.Lib.indexByte c 47).toNat + 1 by simp only [List.length_cons, List.length_nil]; omega, split_step (by omega), List.length_append]; rfl
   · have hx := index_some (s := c) (by omega); rw [List.length_drop]; omega
 ·
  refine AMx.exit ?_
  refine AMx.code_exit ?_
  refine AMx.inv_exit ?_
  refine AMx.blk_exit ?_
  refine gS [(4, CE.obj (AObj.grow 9 1 Bytes [] AL.Fnv.rowS (List.set (o ++ List.replicate (piecesS c).length []) (List.length o) c)))] [(0 : Int) ≤ (List.length o : Int), (List.length o : Int) < List.length (o ++ List.replicate (piecesS c).length [] : List Bytes), StoreC (List.length o) 0 [.s (st c)] (AObj.grow 9 1 Bytes [] AL.Fnv.rowS (o ++ List.replicate (piecesS c).length [])) (AObj.grow 9 1 Bytes [] AL.Fnv.rowS (List.set (o ++ List.replicate (piecesS c).length []) (List.length o) c))] 66 [(9, vo 31), (10, vc (i6 (List.length o : Int)))] [(31, AObj.grow 9 1 Bytes [] AL.Fnv.rowS (List.set (o ++ List.replicate (piecesS c).length []) (List.length o) c))] ⟨(by first | omega | (have hx := index_rng c; first | omega | (simp only [List.length_cons, List.length_nil]; omega) | (have hz := split_le hP; first | omega | (simp only [List.length_append, List.length_replicate, List.length_set]; omega)))), (by first | omega | (have hx := index_rng c; first | omega | (simp only [List.length_cons, List.length_nil]; omega) | (have hz := split_le hP; first | omega | (simp only [List.length_append, List.length_replicate, List.length_set]; omega)))), (⟨c, rfl, by first | omega | (have hx := index_rng c; first | omega | (simp only [List.length_cons, List.length_nil]; omega) | (have hz := split_le hP; first | omega | (simp only [List.length_append, List.length_replicate, List.length_set]; omega))), rfl⟩)⟩ ?_
  refine gS [] [InR .i64 ((List.length o : Int) + 1), 0 ≤ (List.length o : Int) + 1, (List.length o : Int) + 1 ≤ (List.length (List.set (o ++ List.replicate (piecesS c).length []) (List.length o) c : List Bytes) : Int)] 66 [(8, vo 65)] [(65, AObj.grow 9 1 Bytes [] AL.Fnv.rowS (List.take ((List.length o) + 1) (List.set (o ++ List.replicate (piecesS c).length []) (List.length o) c)))] ⟨(inR64 (by first | omega | (have hx := index_rng c; first | omega | (simp only [List.length_cons, List.length_nil]; omega) | (have hz := split_le hP; first | omega | (simp only [List.length_append, List.length_replicate, List.length_set]; omega)))) (by first | omega | (have hx := index_rng c; first | omega | (simp only [List.length_cons, List.length_nil]; omega) | (have hz := split_le hP; first | omega | (simp only [List.length_append, List.length_replicate, List.length_set]; omega))))), (by first | omega | (have hx := index_rng c; first | omega | (simp only [List.length_cons, List.length_nil]; omega) | (have hz := split_le hP; first | omega | (simp only [List.length_append, List.length_replicate, List.length_set]; omega)))), (show (List.length o : Int) + 1 ≤ (List.length (List.set (o ++ List.replicate (piecesS c).length []) (List.length o) c : List Bytes) : Int) from (by first | omega | (have hx := index_rng c; first | omega | (simp only [List.length_cons, List.length_nil]; omega) | (have hz := split_le hP; first | omega | (simp only [List.length_append, List.length_replicate, List.length_set]; omega)))))⟩ ?_
  refine AMx.ent (s' := AS.lst 66 [(8, vc (AL.Fnv.slS (List.take ((List.length o) + 1) (List.set (o ++ List.replicate (piecesS c).length []) (List.length o) c))))] []) (ent_freeze (id := 65) (T := 9) (by kernel_rfl)) ?_
  exact gT (vc (AL.Fnv.slS (List.take ((List.length o) + 1) (List.set (o ++ List.replicate (piecesS c).length []) (List.length o) c)))) (by rw [split_end hP (by first | exact index_none (by omega) | exact split_last hP (by omega))])
end AL.Route
namespace AL.Route
open Go Go.Proofs AL AL.Rune
set_option linter.unusedVariables false
set_option linter.unusedSimpArgs false
theorem f94_body : Tryz.f94.body = some (.seq (.region 0 (rg Tryz.f94 0) false) (.seq (.region 1 (rg Tryz.f94 1) false) (.ret))) := by kernel_rfl
set_option maxRecDepth 100000 in
set_option maxHeartbeats 8000000 in
theorem Split_c (s : Bytes) (hb : s.length ≤ 100000) : Pure Tryz.prog 94 [tc (st s), tc (st [47])] (vc (AL.Fnv.slS (piecesS s))) := by
 refine Pure.of_body Tryz.func94 f94_body (by kernel_rfl) Tryz.ntmps94 (by kernel_rfl) (by kernel_rfl) ?_
 refine gS [] [] 8 [(0, vc (st s)), (1, vc (st [47]))] [] trivial ?_
 refine gS [(2, CE.call [] [] (vc (AL.Fnv.slS (piecesS s))) [])] [Spec Tryz.prog 127 [tc (st s), tc (st [47]), tc (i6 0), tc (i6 (-1))] (ofH []) (vc (AL.Fnv.slS (piecesS s))) (ofH [])] 8 [(4, vc (AL.Fnv.slS (piecesS s)))] [] (genSplit_c s (by omega)) ?_
 exact gT (vc (AL.Fnv.slS (piecesS s))) rfl
theorem f151_body : Tryz.f151.body = some (.seq (.region 0 (rg Tryz.f151 0) false) (.seq (.region 1 (rg Tryz.f151 1) false) (.seq (.seq (.region 2 (rg Tryz.f151 2) false) (.block 0 (.loop (.seq (.region 3 (rg Tryz.f151 3) false) (.seq (.cond (.tmp 9) (.skip) (.exit 0)) (.seq (.block 1 (.seq (.region 4 (rg Tryz.f151 4) false) (.seq (.region 5 (rg Tryz.f151 5) false) (.block 2 (.seq (.region 6 (rg Tryz.f151 6) false) (.cond (.tmp 14) (.seq (.region 7 (rg Tryz.f151 7) false) (.ret)) (.seq (.region 8 (rg Tryz.f151 8) false) (.cond (.tmp 16) (.region 9 (rg Tryz.f151 9) false) (.skip))))))))) (.region 10 (rg Tryz.f151 10) false))))))) (.seq (.seq (.region 11 (rg Tryz.f151 11) false) (.cond (.tmp 25) (.seq (.region 12 (rg Tryz.f151 12) false) (.ret)) (.skip))) (.seq (.region 13 (rg Tryz.f151 13) false) (.ret)))))) := by kernel_rfl
set_option maxRecDepth 100000 in
set_option maxHeartbeats 8000000 in
theorem graded_c (l : List Bytes) (hb : ∀ p ∈ l, p.length ≤ 100000) : Pure Tryz.prog 151 [tc (AL.Fnv.slS l)] (vc (i6 (gradedS l))) := by
 refine Pure.of_body Tryz.func151 f151_body (by kernel_rfl) Tryz.ntmps151 (by kernel_rfl) (by kernel_rfl) ?_
 refine AMx.sl 0 (l := l) rfl (fun hl => ?_)
 simp only [maxLen] at hl
 refine gS [] [] 27 [(0, vc (AL.Fnv.slS l))] [] trivial ?_
 refine gS [] [] 27 [(0, vc (AL.Fnv.slS l)), (3, vc (i6 0))] [] trivial ?_
 refine gQ ?_
 refine gS [] [] 27 [(0, vc (AL.Fnv.slS l)), (3, vc (i6 0)), (6, vc (AL.Fnv.slS l)), (7, vc (i6 (List.length l : Int))), (8, vc (i6 0))] [] trivial ?_
 refine AMx.block ?_
 refine AMx.ent (s' := AS.lst 27 [(0, vc (AL.Fnv.slS l)), (3, vc (i6 0)), (6, vc (AL.Fnv.slS l)), (7, vc (i6 (List.length l : Int))), (8, vc (i6 0))] []) (ent_proj [0, 3, 6, 7, 8] []) ?_
 refine AMx.loop (fun mm ss => ∃ (k : Nat), (k ≤ l.length ∧ ∀ i, i < k → ¬ partS (List.getD l i []) = 4) ∧ mm = l.length - k ∧ ss = AS.lst 27 [(0, vc (AL.Fnv.slS l)), (3, vc (i6 (worstS (List.take k l)))), (6, vc (AL.Fnv.slS l)), (7, vc (i6 (List.length l : Int))), (8, vc (i6 (k : Int)))] []) ⟨0, ?_, rfl, ?_⟩ ?_
 · exact ⟨Nat.zero_le _, fun i hi => by omega⟩
 · rfl
 rintro mm ss ⟨k, ⟨hI, hN⟩, rfl, rfl⟩
 refine gS [] [] 27 [(0, vc (AL.Fnv.slS l)), (3, vc (i6 (worstS (List.take k l)))), (6, vc (AL.Fnv.slS l)), (7, vc (i6 (List.length l : Int))), (8, vc (i6 (k : Int))), (9, vc (bo (decide ((k : Int) < (List.length l : Int)))))] [] trivial ?_
 refine gQ ?_
 refine gC ((k : Int) < (List.length l : Int)) (fun hc1 => ?_) fun hc1 => ?_
 ·
  refine AMx.skip ?_
  refine gQ ?_
  refine AMx.block ?_
  refine gS [] [(0 : Int) ≤ (k : Int), (k : Int) < List.length l] 27 [(0, vc (AL.Fnv.slS l)), (3, vc (i6 (worstS (List.take k l)))), (5, vc (st (List.getD l k []))), (6, vc (AL.Fnv.slS l)), (7, vc (i6 (List.length l : Int))), (8, vc (i6 (k : Int)))] [] ⟨(by omega), (show (k : Int) < List.length l from (by omega))⟩ ?_
  refine gS [(1, CE.call [] [] (vc (i6 (partS (List.getD l k [])))) [])] [Spec Tryz.prog 166 [tc (st (List.getD l k []))] (ofH []) (vc (i6 (partS (List.getD l k [])))) (ofH [])] 27 [(0, vc (AL.Fnv.slS l)), (3, vc (i6 (worstS (List.take k l)))), (6, vc (AL.Fnv.slS l)), (7, vc (i6 (List.length l : Int))), (8, vc (i6 (k : Int))), (13, vc (i6 (partS (List.getD l k []))))] [] (Part_c (List.getD l k []) (hb _ (AL.Lib.getD_mem [] l k (by omega)))) ?_
  refine AMx.block ?_
  refine gS [] [] 27 [(0, vc (AL.Fnv.slS l)), (3, vc (i6 (worstS (List.take k l)))), (6, vc (AL.Fnv.slS l)), (7, vc (i6 (List.length l : Int))), (8, vc (i6 (k : Int))), (13, vc (i6 (partS (List.getD l k [])))), (14, vc (bo (decide (partS (List.getD l k []) = 4))))] [] trivial ?_
  refine gC (partS (List.getD l k []) = 4) (fun hc2 => ?_) fun hc2 => ?_
  ·
   refine gS [] [] 27 [(2, vc (i6 4))] [] trivial ?_
   exact gT (vc (i6 4)) (by rw [graded_hit (k := k) (by omega) (by assumption)])
  ·
   refine gS [] [] 27 [(0, vc (AL.Fnv.slS l)), (3, vc (i6 (worstS (List.take k l)))), (6, vc (AL.Fnv.slS l)), (7, vc (i6 (List.length l : Int))), (8, vc (i6 (k : Int))), (16, vc (bo (decide (partS (List.getD l k []) = 5))))] [] trivial ?_
   refine gC (partS (List.getD l k []) = 5) (fun hc3 => ?_) fun hc3 => ?_
   ·
    refine gR [] [] 27 [(0, vc (AL.Fnv.slS l)), (3, vc (i6 5)), (6, vc (AL.Fnv.slS l)), (7, vc (i6 (List.length l : Int))), (8, vc (i6 (k : Int)))] [] trivial ?_
    refine AMx.blk ?_
    refine AMx.blk ?_
    refine gR [] [InR .i64 ((k : Int) + 1)] 27 [(0, vc (AL.Fnv.slS l)), (3, vc (i6 5)), (6, vc (AL.Fnv.slS l)), (7, vc (i6 (List.length l : Int))), (8, vc (i6 ((k : Int) + 1)))] [] (show InR .i64 ((k : Int) + 1) from (inR64 (by omega) (by omega))) ?_
    refine AMx.ent_inv (s' := AS.lst 27 [(0, vc (AL.Fnv.slS l)), (3, vc (i6 5)), (6, vc (AL.Fnv.slS l)), (7, vc (i6 (List.length l : Int))), (8, vc (i6 ((k : Int) + 1)))] []) (ent_proj [0, 3, 6, 7, 8] []) ?_
    refine AMx.inv ⟨_, ?_, k + 1, ?_, rfl, ?_⟩
    rotate_left
    · exact ⟨by omega, fun i hi => by rcases Nat.lt_or_ge i k with q | q; exact hN i q; rw [show i = k by omega]; assumption⟩
    · rw [worst_step l k (by omega), if_pos (by assumption)]; rfl
    · omega
   ·
    refine AMx.skip ?_
    refine AMx.blk ?_
    refine AMx.blk ?_
    refine gR [] [InR .i64 ((k : Int) + 1)] 27 [(0, vc (AL.Fnv.slS l)), (3, vc (i6 (worstS (List.take k l)))), (6, vc (AL.Fnv.slS l)), (7, vc (i6 (List.length l : Int))), (8, vc (i6 ((k : Int) + 1)))] [] (show InR .i64 ((k : Int) + 1) from (inR64 (by omega) (by omega))) ?_
    refine AMx.ent_inv (s' := AS.lst 27 [(0, vc (AL.Fnv.slS l)), (3, vc (i6 (worstS (List.take k l)))), (6, vc (AL.Fnv.slS l)), (7, vc (i6 (List.length l : Int))), (8, vc (i6 ((k : Int) + 1)))] []) (ent_proj [0, 3, 6, 7, 8] []) ?_
    refine AMx.inv ⟨_, ?_, k + 1, ?_, rfl, ?_⟩
    rotate_left
    · exact ⟨by omega, fun i hi => by rcases Nat.lt_or_ge i k with q | q; exact hN i q; rw [show i = k by omega]; assumption⟩
    · rw [worst_step l k (by omega), if_neg (by assumption)]; rfl
    · omega
 ·
  refine AMx.exit ?_
  refine AMx.code_exit ?_
  refine AMx.inv_exit ?_
  refine AMx.blk_exit ?_
  rw [show List.take k l = l from List.take_of_length_le (by omega)]
  refine gQ ?_
  refine gS [] [((decide (worstS l = 0)) = true) → allP [(decide (worstS l = 0)) = true], ((decide (worstS l = 0)) = true) → allP [(decide (worstS l = 0)) = true], (decide (worstS l = 0)) = true → allP [(decide (worstS l = 0)) = true]] 27 [(3, vc (i6 (worstS l))), (25, vc (bo ((decide (worstS l = 0)) && (decide (6 < (List.length l : Int))))))] [] ⟨(fun hp => hp), (fun hp => hp), (fun hp2 => (by first | exact hp2 | exact ⟨hp, hp2⟩))⟩ ?_
  refine gB (((decide (worstS l = 0)) && (decide (6 < (List.length l : Int))))) (fun hc4 => ?_) fun hc4 => ?_
  ·
   try simp only [xT, xF, xA, xB] at hc4
   refine gS [] [] 27 [(2, vc (i6 24))] [] trivial ?_
   exact gT (vc (i6 24)) (by rw [graded_end (fun i hi => hN i (by omega)), if_pos (by omega), if_pos (by omega)])
  ·
   try simp only [xT, xF, xA, xB] at hc4
   refine AMx.skip ?_
   refine gS [] [] 27 [(2, vc (i6 (worstS l)))] [] trivial ?_
   exact gT (vc (i6 (worstS l))) (by rw [graded_end (fun i hi => hN i (by omega))]; by_cases hw : worstS l = 0; rw [hw, if_pos rfl, if_neg (by omega)]; rw [if_neg hw])
theorem f131_body : Tryz.f131.body = some (.seq (.region 0 (rg Tryz.f131 0) false) (.seq (.seq (.region 1 (rg Tryz.f131 1) false) (.cond (.tmp 8) (.seq (.region 2 (rg Tryz.f131 2) false) (.ret)) (.skip))) (.seq (.region 3 (rg Tryz.f131 3) false) (.seq (.seq (.region 4 (rg Tryz.f131 4) false) (.seq (.region 5 (rg Tryz.f131 5) false) (.cond (.tmp 14) (.seq (.region 6 (rg Tryz.f131 6) false) (.ret)) (.skip)))) (.seq (.region 7 (rg Tryz.f131 7) false) (.ret)))))) := by kernel_rfl
set_option maxRecDepth 100000 in
set_option maxHeartbeats 8000000 in
theorem Parts_c (s : Bytes) : Pure Tryz.prog 131 [tc (st s)] (AV.tup [tc (AL.Fnv.slS ((partsS s).1)), tc (i6 ((partsS s).2))]) := by
 refine Pure.of_body Tryz.func131 f131_body (by kernel_rfl) Tryz.ntmps131 (by kernel_rfl) (by kernel_rfl) ?_
 refine gS [] [] 17 [(0, vc (st s))] [] trivial ?_
 refine gQ ?_
 refine gS [] [] 17 [(0, vc (st s)), (8, vc (bo (decide (64 < (List.length s : Int)))))] [] trivial ?_
 refine gC (64 < (List.length s : Int)) (fun hc1 => ?_) fun hc1 => ?_
 ·
  refine gS [] [] 17 [(2, vc (SC.nilsl)), (3, vc (i6 5))] [] trivial ?_
  refine AMx.ent (ent_weak 2 (v' := vc (AL.Fnv.slS [])) (by kernel_rfl) (AV.le_t (TV.le_c AC.le_nil))) ?_
  exact gT (AV.tup [tc (AL.Fnv.slS []), tc (i6 5)]) (by rw [show partsS s = ([], 5) from by first | rw [parts_no (by rw [check_big (by omega)]; decide), check_big (by omega)] | (have hk := check_small (s := s) (by omega); first | rw [parts_no (by omega), hk] | rw [parts_ok (by omega)])])
 ·
  refine AMx.skip ?_
  refine gS [(1, CE.call [] [] (vc (AL.Fnv.slS (piecesS s))) [])] [Spec Tryz.prog 94 [tc (st s), tc (st [47])] (ofH []) (vc (AL.Fnv.slS (piecesS s))) (ofH [])] 17 [(4, vc (AL.Fnv.slS (piecesS s)))] [] (Split_c s (by omega)) ?_
  refine gQ ?_
  refine gS [(1, CE.call [] [] (vc (i6 (gradedS (piecesS s)))) [])] [Spec Tryz.prog 151 [tc (AL.Fnv.slS (piecesS s))] (ofH []) (vc (i6 (gradedS (piecesS s)))) (ofH [])] 17 [(4, vc (AL.Fnv.slS (piecesS s))), (5, vc (i6 (gradedS (piecesS s))))] [] (graded_c (piecesS s) (fun p hp => Nat.le_trans (piece_le hp) (by omega))) ?_
  refine gS [] [] 17 [(4, vc (AL.Fnv.slS (piecesS s))), (5, vc (i6 (gradedS (piecesS s)))), (14, vc (bo (!decide (gradedS (piecesS s) = 0))))] [] trivial ?_
  refine gN (gradedS (piecesS s) = 0) (fun hc2 => ?_) fun hc2 => ?_
  ·
   refine gS [] [] 17 [(2, vc (SC.nilsl)), (3, vc (i6 (gradedS (piecesS s))))] [] trivial ?_
   refine AMx.ent (ent_weak 2 (v' := vc (AL.Fnv.slS [])) (by kernel_rfl) (AV.le_t (TV.le_c AC.le_nil))) ?_
   exact gT (AV.tup [tc (AL.Fnv.slS []), tc (i6 (gradedS (piecesS s)))]) (by rw [show partsS s = ([], gradedS (piecesS s)) from by first | rw [parts_no (by rw [check_big (by omega)]; decide), check_big (by omega)] | (have hk := check_small (s := s) (by omega); first | rw [parts_no (by omega), hk] | rw [parts_ok (by omega)])])
  ·
   refine AMx.skip ?_
   refine gS [] [] 17 [(2, vc (AL.Fnv.slS (piecesS s))), (3, vc (i6 0))] [] trivial ?_
   exact gT (AV.tup [tc (AL.Fnv.slS (piecesS s)), tc (i6 0)]) (by rw [show partsS s = (piecesS s, 0) from by first | rw [parts_no (by rw [check_big (by omega)]; decide), check_big (by omega)] | (have hk := check_small (s := s) (by omega); first | rw [parts_no (by omega), hk] | rw [parts_ok (by omega)])])
theorem f99_body : Tryz.f99.body = some (.seq (.region 0 (rg Tryz.f99 0) false) (.seq (.region 1 (rg Tryz.f99 1) false) (.seq (.region 2 (rg Tryz.f99 2) false) (.ret)))) := by kernel_rfl
set_option maxRecDepth 100000 in
set_option maxHeartbeats 8000000 in
theorem Check_c (s : Bytes) : Pure Tryz.prog 99 [tc (st s)] (vc (i6 (checkS s))) := by
 refine Pure.of_body Tryz.func99 f99_body (by kernel_rfl) Tryz.ntmps99 (by kernel_rfl) (by kernel_rfl) ?_
 refine gS [] [] 11 [(0, vc (st s))] [] trivial ?_
 refine gS [(1, CE.call [] [] (AV.tup [tc (AL.Fnv.slS ((partsS s).1)), tc (i6 ((partsS s).2))]) [])] [Spec Tryz.prog 131 [tc (st s)] (ofH []) (AV.tup [tc (AL.Fnv.slS ((partsS s).1)), tc (i6 ((partsS s).2))]) (ofH [])] 11 [(4, vc (i6 ((partsS s).2)))] [] (Parts_c s) ?_
 refine gS [] [] 11 [(2, vc (i6 ((partsS s).2)))] [] trivial ?_
 exact gT (vc (i6 ((partsS s).2))) (by rw [parts_2])
end AL.Route
namespace AL.Under
open Go Go.Proofs AL
set_option linter.unusedVariables false
set_option linter.unusedSimpArgs false
theorem trim_len (s p : Bytes) : (trimP s p).length ≤ s.length := by unfold trimP; split <;> simp
theorem CutPrefix_c (s p : Bytes) : Pure Tryz.prog 167 [tc (st s), tc (st p)] (AV.tup [tc (st (trimP s p)), tc (bo (hasP s p))]) := by
  refine Pure.of_calls ⟨_, Tryz.func167, by kernel_rfl, by kernel_rfl⟩ fun Γ w cargs hm => ?_
  obtain ⟨u, v, rfl, ⟨rfl, hu⟩, ⟨rfl, hv⟩⟩ := args2 hm
  refine (Tryz.strings_CutPrefix (ba s) (ba p) w).mono ?_
  rintro e w' ⟨rfl, rfl⟩
  exact ⟨_, rfl, rfl, #[.string (ba (trimP s p)), .bool (hasP s p)], rfl, ⟨rfl, Nat.le_trans (trim_len s p) hu⟩, rfl, trivial⟩
end AL.Under
namespace AL.Under
open Go Go.Proofs AL
set_option linter.unusedVariables false
set_option linter.unusedSimpArgs false
theorem oneS : OneRow Bytes AL.Fnv.rowS Go.Proofs.encStr (fun s => s.length ≤ maxLen) := ⟨fun h => h, fun h => ⟨rfl, h⟩⟩
def risen (l : List Bytes) : List Bytes := l.mergeSort fun x y => decide (x ≤ y)
theorem risen_len (l : List Bytes) : (risen l).length = l.length := List.length_mergeSort l
theorem risen_mem {l : List Bytes} {x : Bytes} (h : x ∈ risen l) : x ∈ l := (List.mergeSort_perm l _).mem_iff.1 h
theorem Sort_c (l : List Bytes) (hb : l.length ≤ 100000) (id : Nat) : Spec Tryz.prog 47 [TV.c (.own id)] (ofH [(id, AObj.grow 9 1 Bytes [] AL.Fnv.rowS l)]) (.tup []) (ofH [(id, AObj.grow 9 1 Bytes [] AL.Fnv.rowS (risen l))]) :=
  Spec.inplace ⟨_, Tryz.func47, by kernel_rfl, by kernel_rfl⟩ oneS (risen_len l) (fun _ => risen_mem) (fun b cap w h1 h2 => Tryz.slices_Sort_string b 0 cap l w h1 h2 (by omega))
    (fun h p cap w => Tryz.slices_Sort_string_none p cap w) id
end AL.Under
namespace AL.Under
open Go Go.Proofs AL AL.Fnv
set_option linter.unusedVariables false
set_option linter.unusedSimpArgs false
theorem f155_body : Tryz.f155.body = some (.seq (.region 0 (rg Tryz.f155 0) false) (.seq (.seq (.region 1 (rg Tryz.f155 1) false) (.cond (.tmp 9) (.seq (.region 2 (rg Tryz.f155 2) false) (.ret)) (.skip))) (.seq (.region 3 (rg Tryz.f155 3) false) (.seq (.seq (.region 4 (rg Tryz.f155 4) false) (.cond (.tmp 20) (.seq (.region 5 (rg Tryz.f155 5) false) (.ret)) (.skip))) (.seq (.region 6 (rg Tryz.f155 6) false) (.ret)))))) := by kernel_rfl
set_option maxRecDepth 100000 in
set_option maxHeartbeats 8000000 in
theorem rest_c (s top : Bytes) : Pure Tryz.prog 155 [tc (st s), tc (st top)] (AV.tup [tc (st ((restS s top).1)), tc (bo ((restS s top).2))]) := by
 refine Pure.of_body Tryz.func155 f155_body (by kernel_rfl) Tryz.ntmps155 (by kernel_rfl) (by kernel_rfl) ?_
 refine gS [] [] 25 [(0, vc (st s)), (1, vc (st top))] [] trivial ?_
 refine gQ ?_
 refine gS [] [] 25 [(0, vc (st s)), (1, vc (st top)), (9, vc (bo (decide (top = []))))] [] trivial ?_
 refine gC (top = []) (fun hc1 => ?_) fun hc1 => ?_
 ·
  refine gS [] [] 25 [(4, vc (st s)), (5, vc (bo (!decide (s = []))))] [] trivial ?_
  exact gT (AV.tup [tc (st s), tc (bo (!decide (s = [])))]) (by rw [show restS s top = (s, !decide (s = [])) from by unfold restS; simp [*]])
 ·
  refine AMx.skip ?_
  refine gS [(2, CE.call [] [] (AV.tup [tc (st (trimP s top)), tc (bo (hasP s top))]) [])] [Spec Tryz.prog 167 [tc (st s), tc (st top)] (ofH []) (AV.tup [tc (st (trimP s top)), tc (bo (hasP s top))]) (ofH [])] 25 [(6, vc (st (trimP s top))), (7, vc (bo (hasP s top)))] [] (CutPrefix_c s top) ?_
  refine gQ ?_
  refine gS [] [] 25 [(6, vc (st (trimP s top))), (20, vc (bo (!(hasP s top))))] [] trivial ?_
  refine gB (!(hasP s top)) (fun hc2 => ?_) fun hc2 => ?_
  ·
   try simp only [xT, xF, xN, xM] at hc2
   refine gS [] [] 25 [(4, vc (st [])), (5, vc (bo false))] [] trivial ?_
   exact gT (AV.tup [tc (st []), tc (bo false)]) (by rw [show restS s top = ([], false) from by unfold restS; simp [*]])
  ·
   try simp only [xT, xF, xN, xM] at hc2
   refine AMx.skip ?_
   refine gS [(1, CE.call [] [] (AV.tup [tc (st (trimP (trimP s top) [47])), tc (bo (hasP (trimP s top) [47]))]) [])] [Spec Tryz.prog 167 [tc (st (trimP s top)), tc (st [47])] (ofH []) (AV.tup [tc (st (trimP (trimP s top) [47])), tc (bo (hasP (trimP s top) [47]))]) (ofH [])] 25 [(4, vc (st (trimP (trimP s top) [47]))), (5, vc (bo (hasP (trimP s top) [47])))] [] (CutPrefix_c (trimP s top) [47]) ?_
   exact gT (AV.tup [tc (st (trimP (trimP s top) [47])), tc (bo (hasP (trimP s top) [47]))]) (by rw [show restS s top = (trimP (trimP s top) [47], hasP (trimP s top) [47]) from by unfold restS; simp [*]])
theorem f140_body : Tryz.f140.body = some (.seq (.region 0 (rg Tryz.f140 0) false) (.seq (.region 1 (rg Tryz.f140 1) false) (.seq (.region 2 (rg Tryz.f140 2) false) (.ret)))) := by kernel_rfl
set_option maxRecDepth 100000 in
set_option maxHeartbeats 8000000 in
theorem Below_c (s top : Bytes) : Pure Tryz.prog 140 [tc (st s), tc (st top)] (vc (bo (belowS s top))) := by
 refine Pure.of_body Tryz.func140 f140_body (by kernel_rfl) Tryz.ntmps140 (by kernel_rfl) (by kernel_rfl) ?_
 refine gS [] [] 14 [(0, vc (st s)), (1, vc (st top))] [] trivial ?_
 refine gS [(2, CE.call [] [] (AV.tup [tc (st ((restS s top).1)), tc (bo ((restS s top).2))]) [])] [Spec Tryz.prog 155 [tc (st s), tc (st top)] (ofH []) (AV.tup [tc (st ((restS s top).1)), tc (bo ((restS s top).2))]) (ofH [])] 14 [(6, vc (bo ((restS s top).2)))] [] (rest_c s top) ?_
 refine gS [] [] 14 [(4, vc (bo ((restS s top).2)))] [] trivial ?_
 exact gT (vc (bo ((restS s top).2))) rfl
theorem f118_body : Tryz.f118.body = some (.seq (.region 0 (rg Tryz.f118 0) false) (.seq (.region 1 (rg Tryz.f118 1) false) (.ret))) := by kernel_rfl
set_option maxRecDepth 100000 in
set_option maxHeartbeats 8000000 in
theorem Within_c (s top : Bytes) : Pure Tryz.prog 118 [tc (st s), tc (st top)] (vc (bo (withinS s top))) := by
 refine Pure.of_body Tryz.func118 f118_body (by kernel_rfl) Tryz.ntmps118 (by kernel_rfl) (by kernel_rfl) ?_
 refine gS [] [] 13 [(0, vc (st s)), (1, vc (st top))] [] trivial ?_
 refine gS [(6, CE.call [] [] (vc (bo (belowS s top))) [])] [((decide (s = top)) = false) → allP [(decide (s = top)) = false, (decide (s = top)) = false, Spec Tryz.prog 140 [tc (st s), tc (st top)] (ofH []) (vc (bo (belowS s top))) (ofH [])], (decide (s = top)) = false → allP [(decide (s = top)) = false]] 13 [(4, vc (bo ((decide (s = top)) || (belowS s top))))] [] ⟨(fun hp => by have hq := hp; (try simp only [xT, xF, xA, xO, xB, xP, xN, xM, Bool.not_eq_true, Bool.not_eq_false] at hq); exact ⟨hp, hp, (Below_c s top)⟩), (fun hp2 => (by first | exact hp2 | exact ⟨hp, hp2⟩))⟩ ?_
 exact gT (vc (bo ((decide (s = top)) || (belowS s top)))) rfl
theorem f83_body : Tryz.f83.body = some (.seq (.region 0 (rg Tryz.f83 0) false) (.seq (.region 1 (rg Tryz.f83 1) false) (.seq (.seq (.region 2 (rg Tryz.f83 2) false) (.block 0 (.loop (.seq (.region 3 (rg Tryz.f83 3) false) (.seq (.cond (.tmp 12) (.skip) (.exit 0)) (.seq (.block 1 (.seq (.region 4 (rg Tryz.f83 4) false) (.seq (.region 5 (rg Tryz.f83 5) false) (.cond (.tmp 24) (.region 6 (rg Tryz.f83 6) false) (.skip))))) (.region 7 (rg Tryz.f83 7) false))))))) (.seq (.region 8 (rg Tryz.f83 8) false) (.ret))))) := by kernel_rfl
set_option maxRecDepth 100000 in
set_option maxHeartbeats 8000000 in
theorem Longest_c (s : Bytes) (l : List Bytes) : Pure Tryz.prog 83 [tc (st s), tc (slS l)] (vc (i6 (longestS s l))) := by
 refine Pure.of_body Tryz.func83 f83_body (by kernel_rfl) Tryz.ntmps83 (by kernel_rfl) (by kernel_rfl) ?_
 refine AMx.sl 1 (l := l) rfl (fun hl => ?_)
 simp only [maxLen] at hl
 refine gS [] [] 30 [(0, vc (st s)), (1, vc (slS l))] [] trivial ?_
 refine gS [] [] 30 [(0, vc (st s)), (1, vc (slS l)), (5, vc (i6 (-1))), (6, vc (i6 (-1)))] [] trivial ?_
 refine gQ ?_
 refine gS [] [] 30 [(0, vc (st s)), (5, vc (i6 (-1))), (6, vc (i6 (-1))), (9, vc (slS l)), (10, vc (i6 (List.length l : Int))), (11, vc (i6 0))] [] trivial ?_
 refine AMx.block ?_
 refine AMx.ent (s' := AS.lst 30 [(0, vc (st s)), (5, vc (i6 (-1))), (6, vc (i6 (-1))), (9, vc (slS l)), (10, vc (i6 (List.length l : Int))), (11, vc (i6 0))] []) (ent_proj [0, 5, 6, 9, 10, 11] []) ?_
 refine AMx.loop (fun mm ss => ∃ (k : Nat), (k ≤ l.length) ∧ mm = l.length - k ∧ ss = AS.lst 30 [(0, vc (st s)), (5, vc (i6 (longS s l k))), (6, vc (i6 (sizeS l (longS s l k)))), (9, vc (slS l)), (10, vc (i6 (List.length l : Int))), (11, vc (i6 (k : Int)))] []) ⟨0, ?_, rfl, ?_⟩ ?_
 · omega
 · rfl
 rintro mm ss ⟨k, hI, rfl, rfl⟩
 refine gS [] [] 30 [(0, vc (st s)), (5, vc (i6 (longS s l k))), (6, vc (i6 (sizeS l (longS s l k)))), (9, vc (slS l)), (10, vc (i6 (List.length l : Int))), (11, vc (i6 (k : Int))), (12, vc (bo (decide ((k : Int) < (List.length l : Int)))))] [] trivial ?_
 refine gQ ?_
 refine gC ((k : Int) < (List.length l : Int)) (fun hc1 => ?_) fun hc1 => ?_
 ·
  refine AMx.skip ?_
  refine gQ ?_
  refine AMx.block ?_
  refine gS [] [(0 : Int) ≤ (k : Int), (k : Int) < List.length l] 30 [(0, vc (st s)), (5, vc (i6 (longS s l k))), (6, vc (i6 (sizeS l (longS s l k)))), (7, vc (i6 (k : Int))), (8, vc (st (List.getD l k []))), (9, vc (slS l)), (10, vc (i6 (List.length l : Int))), (11, vc (i6 (k : Int)))] [] ⟨(by omega), (show (k : Int) < List.length l from (by omega))⟩ ?_
  refine gS [(7, CE.call [] [] (vc (bo (withinS s (List.getD l k [])))) [])] [((decide (sizeS l (longS s l k) < (List.length ((List.getD l k []) : List UInt8) : Int))) = true) → allP [(decide (sizeS l (longS s l k) < (List.length ((List.getD l k []) : List UInt8) : Int))) = true, (decide (sizeS l (longS s l k) < (List.length ((List.getD l k []) : List UInt8) : Int))) = true, Spec Tryz.prog 118 [tc (st s), tc (st (List.getD l k []))] (ofH []) (vc (bo (withinS s (List.getD l k [])))) (ofH [])], (decide (sizeS l (longS s l k) < (List.length ((List.getD l k []) : List UInt8) : Int))) = true → allP [(decide (sizeS l (longS s l k) < (List.length ((List.getD l k []) : List UInt8) : Int))) = true]] 30 [(0, vc (st s)), (5, vc (i6 (longS s l k))), (6, vc (i6 (sizeS l (longS s l k)))), (7, vc (i6 (k : Int))), (8, vc (st (List.getD l k []))), (9, vc (slS l)), (10, vc (i6 (List.length l : Int))), (11, vc (i6 (k : Int))), (24, vc (bo ((decide (sizeS l (longS s l k) < (List.length ((List.getD l k []) : List UInt8) : Int))) && (withinS s (List.getD l k [])))))] [] ⟨(fun hp => by have hq := hp; (try simp only [xT, xF, xA, xO, xB, xP, xN, xM, Bool.not_eq_true, Bool.not_eq_false] at hq); exact ⟨hp, hp, (Within_c s (List.getD l k []))⟩), (fun hp2 => (by first | exact hp2 | exact ⟨hp, hp2⟩))⟩ ?_
  refine gB (((decide (sizeS l (longS s l k) < (List.length ((List.getD l k []) : List UInt8) : Int))) && (withinS s (List.getD l k [])))) (fun hc2 => ?_) fun hc2 => ?_
  ·
   try simp only [xT, xF, xA, xB] at hc2
   refine gR [] [] 30 [(0, vc (st s)), (5, vc (i6 (k : Int))), (6, vc (i6 (List.length ((List.getD l k []) : List UInt8) : Int))), (9, vc (slS l)), (10, vc (i6 (List.length l : Int))), (11, vc (i6 (k : Int)))] [] trivial ?_
   refine AMx.blk ?_
   refine gR [] [InR .i64 ((k : Int) + 1)] 30 [(0, vc (st s)), (5, vc (i6 (k : Int))), (6, vc (i6 (List.length ((List.getD l k []) : List UInt8) : Int))), (9, vc (slS l)), (10, vc (i6 (List.length l : Int))), (11, vc (i6 ((k : Int) + 1)))] [] (show InR .i64 ((k : Int) + 1) from (inR64 (by omega) (by omega))) ?_
   refine AMx.ent_inv (s' := AS.lst 30 [(0, vc (st s)), (5, vc (i6 (k : Int))), (6, vc (i6 (List.length ((List.getD l k []) : List UInt8) : Int))), (9, vc (slS l)), (10, vc (i6 (List.length l : Int))), (11, vc (i6 ((k : Int) + 1)))] []) (ent_proj [0, 5, 6, 9, 10, 11] []) ?_
   refine AMx.inv ⟨_, ?_, k + 1, ?_, rfl, ?_⟩
   rotate_left
   · omega
   · rw [long_t hc2.2 hc2.1, size_k]; rfl
   · omega
  ·
   try simp only [xT, xF, xA, xB] at hc2
   refine AMx.skip ?_
   refine AMx.blk ?_
   refine gR [] [InR .i64 ((k : Int) + 1)] 30 [(0, vc (st s)), (5, vc (i6 (longS s l k))), (6, vc (i6 (sizeS l (longS s l k)))), (9, vc (slS l)), (10, vc (i6 (List.length l : Int))), (11, vc (i6 ((k : Int) + 1)))] [] (show InR .i64 ((k : Int) + 1) from (inR64 (by omega) (by omega))) ?_
   refine AMx.ent_inv (s' := AS.lst 30 [(0, vc (st s)), (5, vc (i6 (longS s l k))), (6, vc (i6 (sizeS l (longS s l k)))), (9, vc (slS l)), (10, vc (i6 (List.length l : Int))), (11, vc (i6 ((k : Int) + 1)))] []) (ent_proj [0, 5, 6, 9, 10, 11] []) ?_
   refine AMx.inv ⟨_, ?_, k + 1, ?_, rfl, ?_⟩
   rotate_left
   · omega
   · rw [long_f (fun q => by rcases hc2 with h | h; exact h q.1; rw [q.2] at h; cases h)]; rfl
   · omega
 ·
  refine AMx.exit ?_
  refine AMx.code_exit ?_
  refine AMx.inv_exit ?_
  refine AMx.blk_exit ?_
  refine gS [] [] 30 [(4, vc (i6 (longS s l k)))] [] trivial ?_
  exact gT (vc (i6 (longS s l k))) (by rw [show k = l.length by omega]; rfl)
end AL.Under
namespace AL.Rows
open Go Go.Proofs AL
set_option linter.unusedVariables false
set_option linter.unusedSimpArgs false
theorem f100_body : Tryz.f100.body = some (.seq (.region 0 (rg Tryz.f100 0) false) (.seq (.seq (.region 1 (rg Tryz.f100 1) false) (.cond (.tmp 11) (.seq (.region 2 (rg Tryz.f100 2) false) (.ret)) (.skip))) (.seq (.seq (.region 3 (rg Tryz.f100 3) false) (.block 0 (.loop (.seq (.region 4 (rg Tryz.f100 4) false) (.seq (.cond (.tmp 15) (.skip) (.exit 0)) (.block 1 (.seq (.region 5 (rg Tryz.f100 5) false) (.seq (.region 6 (rg Tryz.f100 6) false) (.cond (.tmp 30) (.seq (.region 7 (rg Tryz.f100 7) false) (.ret)) (.skip)))))))))) (.seq (.region 8 (rg Tryz.f100 8) false) (.ret))))) := by kernel_rfl
set_option maxRecDepth 100000 in
set_option maxHeartbeats 8000000 in
theorem named_c (s : Bytes) : Pure Tryz.prog 100 [tc (st s)] (vc (bo (namedS s))) := by
 refine Pure.of_body Tryz.func100 f100_body (by kernel_rfl) Tryz.ntmps100 (by kernel_rfl) (by kernel_rfl) ?_
 refine gS [] [] 31 [(0, vc (st s))] [] trivial ?_
 refine gQ ?_
 refine gS [] [((decide (s = [])) = false) → allP [(decide (s = [])) = false], ((decide (s = [])) = false) → allP [(decide (s = [])) = false], (decide (s = [])) = false → allP [(decide (s = [])) = false]] 31 [(0, vc (st s)), (11, vc (bo ((decide (s = [])) || (decide (8 < (List.length s : Int))))))] [] ⟨(fun hp => hp), (fun hp => hp), (fun hp2 => (by first | exact hp2 | exact ⟨hp, hp2⟩))⟩ ?_
 refine gB (((decide (s = [])) || (decide (8 < (List.length s : Int))))) (fun hc1 => ?_) fun hc1 => ?_
 ·
  try simp only [xT, xF, xO, xP] at hc1
  refine gS [] [] 31 [(2, vc (bo false))] [] trivial ?_
  exact gT (vc (bo false)) (by first | rw [nm_bad (by omega) (by assumption)] | rw [named_size (by rcases hc1 with h | h; exact .inl h; exact .inr (by omega))])
 ·
  try simp only [xT, xF, xO, xP] at hc1
  refine AMx.skip ?_
  refine gQ ?_
  refine gS [] [] 31 [(13, vp 13 0)] [(13, AObj.iter s 0)] trivial ?_
  refine AMx.block ?_
  refine AMx.ent (s' := AS.lst 31 [(13, vp 13 0)] [(13, AObj.iter s 0)]) (ent_proj [13] [13]) ?_
  refine AMx.loop (fun mm ss => ∃ (pos : Nat), (pos ≤ s.length ∧ LeftNm s pos) ∧ mm = s.length - pos ∧ ss = AS.lst 31 [(13, vp 13 0)] [(13, AObj.iter s pos)]) ⟨0, ?_, rfl, ?_⟩ ?_
  · exact ⟨Nat.zero_le _, nm_0 s⟩
  · rfl
  rintro mm ss ⟨pos, ⟨hI, hN⟩, rfl, rfl⟩
  refine gQ ?_
  rcases Nat.lt_or_ge pos (List.length s) with hn1 | hn1
  ·
   have hd1 := AL.Rune.dec_ok hn1
   refine gR [(0, CE.str [])] [pos < List.length s, ((pos : Nat) : Int) ≤ 9223372036854775807] 31 [(13, vp 13 0), (14, AV.tup [tc (bo true), tc (i6 (pos : Int)), tc (i3 ((decS s pos).1 : Int))]), (15, vc (bo true))] [(13, AObj.iter s (pos + (decS s pos).2))] ⟨(by omega), (show ((pos : Nat) : Int) ≤ 9223372036854775807 from (by omega))⟩ ?_
   refine gQ ?_
   refine gBt ?_
   refine AMx.skip ?_
   refine AMx.block ?_
   refine gS [] [] 31 [(4, vc (i3 ((decS s pos).1 : Int))), (13, vp 13 0)] [(13, AObj.iter s (pos + (decS s pos).2))] trivial ?_
   refine gS [] [((decide (((decS s pos).1 : Int) < 97)) = false) → allP [(decide (((decS s pos).1 : Int) < 97)) = false], (decide (((decS s pos).1 : Int) < 97)) = false → allP [(decide (((decS s pos).1 : Int) < 97)) = false], (((decide (((decS s pos).1 : Int) < 97)) || (decide (122 < ((decS s pos).1 : Int)))) = true) → allP [((decide (((decS s pos).1 : Int) < 97)) || (decide (122 < ((decS s pos).1 : Int)))) = true], (((decide (((decS s pos).1 : Int) < 97)) || (decide (122 < ((decS s pos).1 : Int)))) = true) → allP [((decide (((decS s pos).1 : Int) < 97)) || (decide (122 < ((decS s pos).1 : Int)))) = true], ((((decide (((decS s pos).1 : Int) < 97)) || (decide (122 < ((decS s pos).1 : Int)))) = true) ∧ (decide (((decS s pos).1 : Int) < 48)) = false) → allP [(((decide (((decS s pos).1 : Int) < 97)) || (decide (122 < ((decS s pos).1 : Int)))) = true) ∧ (decide (((decS s pos).1 : Int) < 48)) = false], (((decide (((decS s pos).1 : Int) < 97)) || (decide (122 < ((decS s pos).1 : Int)))) = true) → allP [((decide (((decS s pos).1 : Int) < 97)) || (decide (122 < ((decS s pos).1 : Int)))) = true, (decide (((decS s pos).1 : Int) < 48)) = false → allP [(((decide (((decS s pos).1 : Int) < 97)) || (decide (122 < ((decS s pos).1 : Int)))) = true) ∧ (decide (((decS s pos).1 : Int) < 48)) = false]], ((decide (((decS s pos).1 : Int) < 97)) || (decide (122 < ((decS s pos).1 : Int)))) = true → allP [((decide (((decS s pos).1 : Int) < 97)) || (decide (122 < ((decS s pos).1 : Int)))) = true]] 31 [(13, vp 13 0), (30, vc (bo (((decide (((decS s pos).1 : Int) < 97)) || (decide (122 < ((decS s pos).1 : Int)))) && ((decide (((decS s pos).1 : Int) < 48)) || (decide (57 < ((decS s pos).1 : Int)))))))] [(13, AObj.iter s (pos + (decS s pos).2))] ⟨(fun hp => hp), (fun hp2 => (by first | exact hp2 | exact ⟨hp, hp2⟩)), (fun hp => hp), (fun hp => hp), (fun hp => hp), (fun hp => by have hq := hp; (try simp only [xT, xF, xA, xO, xB, xP, xN, xM, Bool.not_eq_true, Bool.not_eq_false] at hq); exact ⟨hp, (fun hp2 => (by first | exact hp2 | exact ⟨hp, hp2⟩))⟩), (fun hp2 => (by first | exact hp2 | exact ⟨hp, hp2⟩))⟩ ?_
   refine gB ((((decide (((decS s pos).1 : Int) < 97)) || (decide (122 < ((decS s pos).1 : Int)))) && ((decide (((decS s pos).1 : Int) < 48)) || (decide (57 < ((decS s pos).1 : Int)))))) (fun hc3 => ?_) fun hc3 => ?_
   ·
    try simp only [xT, xF, xA, xB, xO, xP] at hc3
    refine gS [] [] 31 [(2, vc (bo false))] [] trivial ?_
    exact gT (vc (bo false)) (by first | rw [nm_bad (by omega) (by assumption)] | rw [named_size (by rcases hc1 with h | h; exact .inl h; exact .inr (by omega))])
   ·
    try simp only [xT, xF, xA, xB, xO, xP] at hc3
    refine AMx.skip ?_
    refine AMx.blk ?_
    refine AMx.ent_inv (s' := AS.lst 31 [(13, vp 13 0)] [(13, AObj.iter s (pos + (decS s pos).2))]) (ent_proj [13] [13]) ?_
    refine AMx.inv ⟨_, ?_, pos + (decS s pos).2, ?_, rfl, ?_⟩
    rotate_left
    · exact ⟨by omega, nm_step (by omega) hN (by omega)⟩
    · rfl
    · omega
  ·
   refine gR [] [List.length s ≤ pos] 31 [(13, vp 13 0), (14, AV.tup [tc (bo false)]), (15, vc (bo false))] [(13, AObj.iter s pos)] (show List.length s ≤ pos from (by omega)) ?_
   refine gQ ?_
   refine gBf ?_
   refine AMx.exit ?_
   refine AMx.code_exit ?_
   refine AMx.inv_exit ?_
   refine AMx.blk_exit ?_
   refine gS [] [] 31 [(2, vc (bo true))] [] trivial ?_
   exact gT (vc (bo true)) (by rw [nm_end (by omega) hN hc1.1 (by omega)])
end AL.Rows
namespace AL.Rows
open Go Go.Proofs AL
set_option linter.unusedVariables false
set_option linter.unusedSimpArgs false
theorem f72_body : Tryz.f72.body = some (.seq (.region 0 (rg Tryz.f72 0) false) (.seq (.region 1 (rg Tryz.f72 1) false) (.seq (.seq (.region 2 (rg Tryz.f72 2) false) (.block 0 (.seq (.region 4 (rg Tryz.f72 4) false) (.cond (.tmp 9) (.region 5 (rg Tryz.f72 5) false) (.seq (.region 6 (rg Tryz.f72 6) false) (.cond (.tmp 18) (.region 7 (rg Tryz.f72 7) false) (.seq (.region 8 (rg Tryz.f72 8) false) (.cond (.tmp 34) (.region 9 (rg Tryz.f72 9) false) (.seq (.seq (.region 10 (rg Tryz.f72 10) false) (.cond (.tmp 42) (.skip) (.region 11 (rg Tryz.f72 11) false))) (.cond (.tmp 42) (.region 12 (rg Tryz.f72 12) false) (.seq (.region 3 (rg Tryz.f72 3) false) (.ret)))))))))))) (.seq (.seq (.region 13 (rg Tryz.f72 13) false) (.cond (.tmp 52) (.seq (.region 14 (rg Tryz.f72 14) false) (.ret)) (.skip))) (.seq (.region 15 (rg Tryz.f72 15) false) (.ret)))))) := by kernel_rfl
set_option maxRecDepth 100000 in
set_option maxHeartbeats 8000000 in
theorem Check_c (k : KeyV) : Pure Tryz.prog 72 [TV.agg [.s (u8 k.1), .s (st k.2.1), .s (i6 k.2.2)]] (vc (i6 (checkK k))) := by
 refine Pure.of_body Tryz.func72 f72_body (by kernel_rfl) Tryz.ntmps72 (by kernel_rfl) (by kernel_rfl) ?_
 refine gS [] [] 53 [(1, vp 1 0)] [(1, AObj.row [.s (u8 k.1), .s (st k.2.1), .s (i6 k.2.2)])] trivial ?_
 refine gS [] [] 53 [(1, vp 1 0), (3, vc (bo (decide (k.2.2 = 0))))] [(1, AObj.row [.s (u8 k.1), .s (st k.2.1), .s (i6 k.2.2)])] trivial ?_
 refine gQ ?_
 refine gS [] [] 53 [(1, vp 1 0), (3, vc (bo (decide (k.2.2 = 0)))), (8, vc (u8 k.1))] [(1, AObj.row [.s (u8 k.1), .s (st k.2.1), .s (i6 k.2.2)])] trivial ?_
 refine AMx.block ?_
 refine gS [] [] 53 [(1, vp 1 0), (3, vc (bo (decide (k.2.2 = 0)))), (8, vc (u8 k.1)), (9, vc (bo (decide (k.1 = 1))))] [(1, AObj.row [.s (u8 k.1), .s (st k.2.1), .s (i6 k.2.2)])] trivial ?_
 refine gC (k.1 = 1) (fun hc1 => ?_) fun hc1 => ?_
 ·
  refine gR [(4, CE.call [] [] (vc (i6 (Route.checkS k.2.1))) [])] [((decide (k.2.2 = 0)) = true) → allP [(decide (k.2.2 = 0)) = true], ((decide (k.2.2 = 0)) = true) → allP [(decide (k.2.2 = 0)) = true, Spec Tryz.prog 99 [tc (st k.2.1)] (ofH []) (vc (i6 (Route.checkS k.2.1))) (ofH [])], ((decide (k.2.2 = 0)) = true) → allP [(decide (k.2.2 = 0)) = true], (decide (k.2.2 = 0)) = true → allP [(decide (k.2.2 = 0)) = true]] 53 [(3, vc (bo ((decide (k.2.2 = 0)) && (decide (Route.checkS k.2.1 = 0)))))] [] ⟨(fun hp => hp), (fun hp => by have hq := hp; (try simp only [xT, xF, xA, xO, xB, xP, xN, xM, Bool.not_eq_true, Bool.not_eq_false] at hq); exact ⟨hp, (Route.Check_c k.2.1)⟩), (fun hp => hp), (fun hp2 => (by first | exact hp2 | exact ⟨hp, hp2⟩))⟩ ?_
  refine AMx.blk ?_
  refine gQ ?_
  refine gS [] [] 53 [(52, vc (bo (!((decide (k.2.2 = 0)) && (decide (Route.checkS k.2.1 = 0))))))] [] trivial ?_
  refine gB (!((decide (k.2.2 = 0)) && (decide (Route.checkS k.2.1 = 0)))) (fun hc2 => ?_) fun hc2 => ?_
  ·
   try simp only [xT, xF, xA, xB, xN, xM] at hc2
   refine gS [] [] 53 [(2, vc (i6 2))] [] trivial ?_
   exact gT (vc (i6 2)) (by rw [show checkK k = 2 from by unfold checkK MayK; grind])
  ·
   try simp only [xT, xF, xA, xB, xN, xM] at hc2
   refine AMx.skip ?_
   refine gS [] [] 53 [(2, vc (i6 0))] [] trivial ?_
   exact gT (vc (i6 0)) (by rw [show checkK k = 0 from by unfold checkK MayK; grind])
 ·
  refine gS [] [] 53 [(1, vp 1 0), (3, vc (bo (decide (k.2.2 = 0)))), (8, vc (u8 k.1)), (18, vc (bo (decide (k.1 = 2))))] [(1, AObj.row [.s (u8 k.1), .s (st k.2.1), .s (i6 k.2.2)])] trivial ?_
  refine gC (k.1 = 2) (fun hc3 => ?_) fun hc3 => ?_
  ·
   refine gR [(11, CE.call [] [] (vc (i6 (Route.checkS k.2.1))) [])] [((decide (1 ≤ k.2.2)) = true) → allP [(decide (1 ≤ k.2.2)) = true], ((decide (1 ≤ k.2.2)) = true) → allP [(decide (1 ≤ k.2.2)) = true], (decide (1 ≤ k.2.2)) = true → allP [(decide (1 ≤ k.2.2)) = true], (((decide (1 ≤ k.2.2)) && (decide (k.2.2 ≤ 30))) = true) → allP [((decide (1 ≤ k.2.2)) && (decide (k.2.2 ≤ 30))) = true], (((decide (1 ≤ k.2.2)) && (decide (k.2.2 ≤ 30))) = true) → allP [((decide (1 ≤ k.2.2)) && (decide (k.2.2 ≤ 30))) = true, Spec Tryz.prog 99 [tc (st k.2.1)] (ofH []) (vc (i6 (Route.checkS k.2.1))) (ofH [])], (((decide (1 ≤ k.2.2)) && (decide (k.2.2 ≤ 30))) = true) → allP [((decide (1 ≤ k.2.2)) && (decide (k.2.2 ≤ 30))) = true], ((decide (1 ≤ k.2.2)) && (decide (k.2.2 ≤ 30))) = true → allP [((decide (1 ≤ k.2.2)) && (decide (k.2.2 ≤ 30))) = true]] 53 [(3, vc (bo (((decide (1 ≤ k.2.2)) && (decide (k.2.2 ≤ 30))) && (decide (Route.checkS k.2.1 = 0)))))] [] ⟨(fun hp => hp), (fun hp => hp), (fun hp2 => (by first | exact hp2 | exact ⟨hp, hp2⟩)), (fun hp => hp), (fun hp => by have hq := hp; (try simp only [xT, xF, xA, xO, xB, xP, xN, xM, Bool.not_eq_true, Bool.not_eq_false] at hq); exact ⟨hp, (Route.Check_c k.2.1)⟩), (fun hp => hp), (fun hp2 => (by first | exact hp2 | exact ⟨hp, hp2⟩))⟩ ?_
   refine AMx.blk ?_
   refine gQ ?_
   refine gS [] [] 53 [(52, vc (bo (!(((decide (1 ≤ k.2.2)) && (decide (k.2.2 ≤ 30))) && (decide (Route.checkS k.2.1 = 0))))))] [] trivial ?_
   refine gB (!(((decide (1 ≤ k.2.2)) && (decide (k.2.2 ≤ 30))) && (decide (Route.checkS k.2.1 = 0)))) (fun hc4 => ?_) fun hc4 => ?_
   ·
    try simp only [xT, xF, xA, xB, xN, xM] at hc4
    refine gS [] [] 53 [(2, vc (i6 2))] [] trivial ?_
    exact gT (vc (i6 2)) (by rw [show checkK k = 2 from by unfold checkK MayK; grind])
   ·
    try simp only [xT, xF, xA, xB, xN, xM] at hc4
    refine AMx.skip ?_
    refine gS [] [] 53 [(2, vc (i6 0))] [] trivial ?_
    exact gT (vc (i6 0)) (by rw [show checkK k = 0 from by unfold checkK MayK; grind])
  ·
   refine gS [] [] 53 [(1, vp 1 0), (3, vc (bo (decide (k.2.2 = 0)))), (8, vc (u8 k.1)), (34, vc (bo (decide (k.1 = 3))))] [(1, AObj.row [.s (u8 k.1), .s (st k.2.1), .s (i6 k.2.2)])] trivial ?_
   refine gC (k.1 = 3) (fun hc5 => ?_) fun hc5 => ?_
   ·
    refine gR [(4, CE.call [] [] (vc (bo (namedS k.2.1))) [])] [((decide (k.2.2 = 0)) = true) → allP [(decide (k.2.2 = 0)) = true], ((decide (k.2.2 = 0)) = true) → allP [(decide (k.2.2 = 0)) = true, Spec Tryz.prog 100 [tc (st k.2.1)] (ofH []) (vc (bo (namedS k.2.1))) (ofH [])], (decide (k.2.2 = 0)) = true → allP [(decide (k.2.2 = 0)) = true]] 53 [(3, vc (bo ((decide (k.2.2 = 0)) && (namedS k.2.1))))] [] ⟨(fun hp => hp), (fun hp => by have hq := hp; (try simp only [xT, xF, xA, xO, xB, xP, xN, xM, Bool.not_eq_true, Bool.not_eq_false] at hq); exact ⟨hp, (named_c k.2.1)⟩), (fun hp2 => (by first | exact hp2 | exact ⟨hp, hp2⟩))⟩ ?_
    refine AMx.blk ?_
    refine gQ ?_
    refine gS [] [] 53 [(52, vc (bo (!((decide (k.2.2 = 0)) && (namedS k.2.1)))))] [] trivial ?_
    refine gB (!((decide (k.2.2 = 0)) && (namedS k.2.1))) (fun hc6 => ?_) fun hc6 => ?_
    ·
     try simp only [xT, xF, xA, xB, xN, xM] at hc6
     refine gS [] [] 53 [(2, vc (i6 2))] [] trivial ?_
     exact gT (vc (i6 2)) (by rw [show checkK k = 2 from by unfold checkK MayK; grind])
    ·
     try simp only [xT, xF, xA, xB, xN, xM] at hc6
     refine AMx.skip ?_
     refine gS [] [] 53 [(2, vc (i6 0))] [] trivial ?_
     exact gT (vc (i6 0)) (by rw [show checkK k = 0 from by unfold checkK MayK; grind])
   ·
    refine gQ ?_
    refine gS [] [] 53 [(1, vp 1 0), (3, vc (bo (decide (k.2.2 = 0)))), (8, vc (u8 k.1)), (42, vc (bo (decide (k.1 = 4))))] [(1, AObj.row [.s (u8 k.1), .s (st k.2.1), .s (i6 k.2.2)])] trivial ?_
    refine gC (k.1 = 4) (fun hc7 => ?_) fun hc7 => ?_
    ·
     refine AMx.skip ?_
     refine gC (k.1 = 4) (fun hc8 => ?_) fun hc8 => ?_
     ·
      refine gR [] [((decide (k.2.2 = 0)) = true) → allP [(decide (k.2.2 = 0)) = true], ((decide (k.2.2 = 0)) = true) → allP [(decide (k.2.2 = 0)) = true], (decide (k.2.2 = 0)) = true → allP [(decide (k.2.2 = 0)) = true]] 53 [(3, vc (bo ((decide (k.2.2 = 0)) && (decide (k.2.1 = [])))))] [] ⟨(fun hp => hp), (fun hp => hp), (fun hp2 => (by first | exact hp2 | exact ⟨hp, hp2⟩))⟩ ?_
      refine AMx.blk ?_
      refine gQ ?_
      refine gS [] [] 53 [(52, vc (bo (!((decide (k.2.2 = 0)) && (decide (k.2.1 = []))))))] [] trivial ?_
      refine gB (!((decide (k.2.2 = 0)) && (decide (k.2.1 = [])))) (fun hc9 => ?_) fun hc9 => ?_
      ·
       try simp only [xT, xF, xA, xB, xN, xM] at hc9
       refine gS [] [] 53 [(2, vc (i6 2))] [] trivial ?_
       exact gT (vc (i6 2)) (by rw [show checkK k = 2 from by unfold checkK MayK; grind])
      ·
       try simp only [xT, xF, xA, xB, xN, xM] at hc9
       refine AMx.skip ?_
       refine gS [] [] 53 [(2, vc (i6 0))] [] trivial ?_
       exact gT (vc (i6 0)) (by rw [show checkK k = 0 from by unfold checkK MayK; grind])
     ·
      refine gS [] [] 53 [(2, vc (i6 22))] [] trivial ?_
      exact gT (vc (i6 22)) (by rw [show checkK k = 22 from by unfold checkK MayK; grind])
    ·
     refine gR [] [] 53 [(1, vp 1 0), (3, vc (bo (decide (k.2.2 = 0)))), (42, vc (bo (decide (k.1 = 5))))] [(1, AObj.row [.s (u8 k.1), .s (st k.2.1), .s (i6 k.2.2)])] trivial ?_
     refine gC (k.1 = 5) (fun hc10 => ?_) fun hc10 => ?_
     ·
      refine gR [] [((decide (k.2.2 = 0)) = true) → allP [(decide (k.2.2 = 0)) = true], ((decide (k.2.2 = 0)) = true) → allP [(decide (k.2.2 = 0)) = true], (decide (k.2.2 = 0)) = true → allP [(decide (k.2.2 = 0)) = true]] 53 [(3, vc (bo ((decide (k.2.2 = 0)) && (decide (k.2.1 = [])))))] [] ⟨(fun hp => hp), (fun hp => hp), (fun hp2 => (by first | exact hp2 | exact ⟨hp, hp2⟩))⟩ ?_
      refine AMx.blk ?_
      refine gQ ?_
      refine gS [] [] 53 [(52, vc (bo (!((decide (k.2.2 = 0)) && (decide (k.2.1 = []))))))] [] trivial ?_
      refine gB (!((decide (k.2.2 = 0)) && (decide (k.2.1 = [])))) (fun hc11 => ?_) fun hc11 => ?_
      ·
       try simp only [xT, xF, xA, xB, xN, xM] at hc11
       refine gS [] [] 53 [(2, vc (i6 2))] [] trivial ?_
       exact gT (vc (i6 2)) (by rw [show checkK k = 2 from by unfold checkK MayK; grind])
      ·
       try simp only [xT, xF, xA, xB, xN, xM] at hc11
       refine AMx.skip ?_
       refine gS [] [] 53 [(2, vc (i6 0))] [] trivial ?_
       exact gT (vc (i6 0)) (by rw [show checkK k = 0 from by unfold checkK MayK; grind])
     ·
      refine gS [] [] 53 [(2, vc (i6 22))] [] trivial ?_
      exact gT (vc (i6 22)) (by rw [show checkK k = 22 from by unfold checkK MayK; grind])
end AL.Rows
namespace AL.Sep
open Go Go.Proofs Go.RowKit AL
set_option linter.unusedVariables false
set_option linter.unusedSimpArgs false
theorem Count_c (k : UInt8) (s : Bytes) : Pure Tryz.prog 147 [tc (st s), tc (st [k])] (vc (i6 ((s.count k : Nat) : Int))) := by
  refine Pure.of_calls ⟨_, Tryz.func147, by kernel_rfl, by kernel_rfl⟩ fun Γ w cargs hm => ?_
  obtain ⟨u, v, rfl, ⟨rfl, hu⟩, ⟨rfl, hv⟩⟩ := args2 hm
  refine (Tryz.strings_Count_one (ba s) k w).mono ?_
  rintro e w' ⟨rfl, rfl⟩
  have h1 : s.count k ≤ s.length := List.count_le_length
  simp only [maxLen] at hu
  exact ⟨_, rfl, rfl, rfl, inR64 (by omega) (by omega)⟩
theorem Index_c (k : UInt8) (s : Bytes) : Pure Tryz.prog 148 [tc (st s), tc (st [k])] (vc (i6 (Go.Lib.indexByte s k))) := by
  refine Pure.of_calls ⟨_, Tryz.func148, by kernel_rfl, by kernel_rfl⟩ fun Γ w cargs hm => ?_
  obtain ⟨u, v, rfl, ⟨rfl, hu⟩, ⟨rfl, hv⟩⟩ := args2 hm
  refine (Tryz.strings_Index_one (ba s) k w).mono ?_
  rintro e w' ⟨rfl, rfl⟩
  have := index_rng k s
  simp only [maxLen] at hu
  exact ⟨_, rfl, rfl, rfl, inR64 (by omega) (by omega)⟩
theorem IndexL_c (k : UInt8) (s : Bytes) : Pure Tryz.prog 149 [tc (st s), tc (st [k])] (vc (i6 (Go.Lib.indexByte s k))) := by
  refine Pure.of_calls ⟨_, Tryz.func149, by kernel_rfl, by kernel_rfl⟩ fun Γ w cargs hm => ?_
  obtain ⟨u, v, rfl, ⟨rfl, hu⟩, ⟨rfl, hv⟩⟩ := args2 hm
  refine (Tryz.stringslite_Index_one (ba s) k w).mono ?_
  rintro e w' ⟨rfl, rfl⟩
  have := index_rng k s
  simp only [maxLen] at hu
  exact ⟨_, rfl, rfl, rfl, inR64 (by omega) (by omega)⟩
theorem lib_join (c : UInt8) : ∀ (l : List Bytes), Go.Lib.join l [c] = joinC c l
  | [] => rfl
  | [p] => Go.Lib.join_one p [c]
  | p :: q :: l => by
    have ih := lib_join c (q :: l)
    unfold Go.Lib.join at ih ⊢
    show _ = p ++ c :: joinC c (q :: l)
    rw [← ih]
    simp [List.intercalate, List.intersperse]
theorem Join_c (c : UInt8) (l : List Bytes) (hb : (joinC c l).length ≤ 100000) : Pure Tryz.prog 88 [tc (AL.Fnv.slS l), tc (st [c])] (vc (st (joinC c l))) := by
  refine Pure.of_below ⟨_, Tryz.func88, by kernel_rfl, by kernel_rfl⟩ fun Γ w cargs hh hm => ?_
  obtain ⟨u, v, rfl, hu, ⟨rfl, hv⟩⟩ := args2 hm
  obtain ⟨a, cap, rfl, h1, h2, h3⟩ := hu
  have fin : MV Γ H0 w (vc (st (joinC c l))) (.string (ba (joinC c l))) := ⟨rfl, by simp only [maxLen]; omega⟩
  rcases h3 with ⟨rfl, h3⟩ | ⟨b, off, rfl, hI, hc⟩
  · refine (Tryz.strings_Join_none a cap (ba [c]) w).mono ?_
    rintro e w' ⟨rfl, rfl⟩
    exact ⟨_, rfl, Below.refl _ _, rfl, Nat.zero_le _⟩
  · have hcells : ∀ (j : Nat) x, (l.map ba)[j]? = some x → w.cell? ⟨b, off + j, none⟩ = some (.string x) := by
      intro j x hx
      rw [List.getElem?_map, Option.map_eq_some_iff] at hx
      obtain ⟨y, hy, rfl⟩ := hx
      obtain ⟨u, hu, hmu⟩ := hc j y hy 0 (by omega)
      obtain ⟨rfl, _⟩ := (show u = .string (ba y) ∧ _ from hmu)
      rw [Nat.mul_one, Nat.add_zero] at hu
      exact hu
    have hl : ((l.map ba).map (·.data.toList)) = l := by
      rw [List.map_map]
      conv => rhs; rw [← List.map_id l]
      exact List.map_congr_left fun x _ => rfl
    have hlen : (l.map ba).length = l.length := List.length_map _
    have hj : Go.Lib.join ((l.map ba).map (·.data.toList)) (ba [c]).data.toList = joinC c l := by rw [hl]; exact lib_join c l
    have := Tryz.strings_Join b off cap (l.map ba) (ba [c]) w hcells (hh.ilt b hI) (by have := join_count c l; rw [hlen]; omega) (by rw [hlen]; exact h1) (by rw [hj]; omega)
    rw [hlen, hj] at this
    refine this.mono ?_
    rintro e w' ⟨rfl, hbel⟩
    exact ⟨_, rfl, hbel, rfl, by simp only [maxLen]; omega⟩
end AL.Sep
