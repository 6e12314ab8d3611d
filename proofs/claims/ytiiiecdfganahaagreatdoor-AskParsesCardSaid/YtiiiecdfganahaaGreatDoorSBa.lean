/- The proof library and the contracts that the law reaches: joined by a program. No condition. -/
import Derived.Test.YtiiiecdfganahaaGreatDoorALd
import Derived.Deep.Slices
import Derived.WalkKit
import Derived.ProofKit
import Derived.OpenShut
import Derived.ShutString
import Derived.ChangeOld
import Derived.Below
import Derived.Carry
import Derived.Test.YtiiiecdfganahaaGreatDoorRows
import Derived.Sort.Grow
import Derived.Test.YtiiiecdfganahaaGreatDoorALc
import Derived.Lib.MapLaws
import Derived.Lib.Bytealg
import Derived.Shelf.Strings.Builder1
import Derived.Shelf.Strings.Builder2
import Derived.Shelf.Strings.OnBuilder
import Derived.Shelf.Strings.BuilderF
import Derived.Shelf.Strings.BuilderK
import Derived.Shelf.Strings.BuilderRune
import Derived.Shelf.Strings.Search1
import Derived.Shelf.Strings.Search2
import Derived.Shelf.Strings.Search3
import Derived.Shelf.Strings.Cut
import Derived.Shelf.Strings.Count
import Derived.Shelf.LaysM
import Derived.Shelf.Strings.Shaped
import Derived.Shelf.Strings.Split
import Derived.Shelf.Strings.SplitShaped
import Derived.Shelf.Unicode.Decode
import Derived.Shelf.Strings.RuneCount
import Derived.Shelf.Strings.Explode
import Derived.Shelf.Unicode.DecodeSlow
import Derived.Shelf.Unicode.DecodeAny
import Derived.Test.YtiiiecdfganahaaGreatDoorProg
import Derived.Lib.OthersKept
import Derived.Lib.RuneBytes
import Derived.BigCall
import Derived.JoinedOf
import Derived.Lib.LaidU8
import Derived.LaidMore
import Derived.SevenTiedAt
import Derived.Lay
import Derived.Test.YtiiiecdfganahaaGreatDoorCards
import Derived.Test.YtiiiecdfganahaaGreatDoorTie
namespace AL
open Go Go.RowKit
set_option linter.unusedVariables false
set_option linter.unusedSimpArgs false
abbrev Iw (w : World) (b : Nat) : Prop := b < w.heap.size
def Reads (P : Program) (t : TypeId) (α : Type) (row : α → Nat → SC) : Prop :=
  ∀ {H : Type} {enc : TypeId × Value → H} {w : World} {spare : Nat → Bool} {held : Bool} {fuel : Nat} {cs : List Value} {x : DataW H × List MemPlace},
    DataW.trod enc P w 0 spare held fuel t cs = some x → ∃ a : α, cs.length = P.cellsOf t ∧ ∀ (i : Nat) (v : Value), cs[i]? = some v → MS (Iw w) w (row a i) v
theorem InR_of_wf {k : IntKind} {n : Int} (h : (Lit.int k n).wf = true) : InR k n := by
  simpa [Lit.wf, InR] using h
theorem one_cell {cs : List Value} {u : Value} {p : Value → Prop} (h : cs = [u]) (hp : p u) : ∀ (i : Nat) (v : Value), cs[i]? = some v → p v := by
  intro i v hi
  subst h
  cases i with
  | zero => simp at hi; subst hi; exact hp
  | succ i => simp at hi
theorem Reads.int {P : Program} {t : TypeId} {k : IntKind} (ht : P.underlying t = some (.int k)) (hc : P.cellsOf t = 1) : Reads P t Int (fun n _ => .int k n) := by
  intro H enc w spare held fuel cs x h
  obtain ⟨n, rfl, _, hw⟩ := DataW.trod_int ht h
  exact ⟨n, by rw [hc]; rfl, one_cell rfl ⟨rfl, InR_of_wf hw⟩⟩
theorem Reads.bool {P : Program} {t : TypeId} (ht : P.underlying t = some .bool) (hc : P.cellsOf t = 1) : Reads P t Bool (fun b _ => .bool b) := by
  intro H enc w spare held fuel cs x h
  obtain ⟨n, rfl, _⟩ := DataW.trod_bool ht h
  exact ⟨n, by rw [hc]; rfl, one_cell rfl rfl⟩
theorem ba_bytes (s : ByteArray) : ba s.data.toList = s := by
  cases s; rfl
theorem Reads.str {P : Program} {t : TypeId} (ht : P.underlying t = some .string) (hc : P.cellsOf t = 1) : Reads P t Bytes (fun b _ => .str b) := by
  intro H enc w spare held fuel cs x h
  obtain ⟨s, rfl, _, hs⟩ := DataW.trod_string ht h
  exact ⟨s.data.toList, by rw [hc]; rfl, one_cell rfl ⟨by rw [ba_bytes], by simpa using hs⟩⟩
theorem cell_lt {w : World} {a : Addr} {v : Value} (h : w.cell? a = some v) : a.block < w.heap.size := by
  unfold World.cell? at h
  split at h
  · rename_i e
    exact (Array.getElem?_eq_some_iff.1 e).1
  · cases h
theorem Reads.slice {P : Program} {t e : TypeId} {α : Type} {row : α → Nat → SC} (d : α) (hr : Reads P e α row) (ht : P.underlying t = some (.slice e)) (hc : P.cellsOf t = 1) {k : Nat} (hk : P.cellsOf e = k) (h0 : 0 < k) :
    Reads P t (List α) (fun l _ => .sl k α d row l) := by
  intro H enc w spare held fuel cs x h
  rcases Go.Deep.open_slice ht h with ⟨rfl, _⟩ | ⟨a, len, cap, m, n, D, Pl, rfl, _, hl, hm, hmm, _, hx⟩
  · refine ⟨[], by rw [hc]; rfl, one_cell rfl ⟨none, 0, rfl, Nat.le_refl _, Nat.zero_le _, .inl ⟨rfl, fun _ => rfl⟩⟩⟩
  · have hlm : len ≤ m := by rw [hmm]; split <;> omega
    have hel : ∀ i, i < len → ∃ y : α, ∀ j, j < k → ∃ u, w.cell? ((a.add (i * k)).add j) = some u ∧ MS (Iw w) w (row y j) u := by
      intro i hi
      obtain ⟨cs', h1, h2⟩ := hx i (by omega)
      rw [hk] at h1
      obtain ⟨_, g2, g3⟩ := World.cells?_some h1
      obtain ⟨y, q1, q2⟩ := hr h2
      refine ⟨y, fun j hj => ?_⟩
      have : cs'[j]? = some cs'[j] := List.getElem?_eq_getElem (by omega)
      exact ⟨_, by rw [g3 j hj]; exact this, q2 j _ this⟩
    let f : Nat → α := fun i => if h : i < len then Classical.choose (hel i h) else d
    have hf : ∀ i, i < len → ∀ j, j < k → ∃ u, w.cell? ((a.add (i * k)).add j) = some u ∧ MS (Iw w) w (row (f i) j) u := by
      intro i hi
      have := Classical.choose_spec (hel i hi)
      simp only [f, dif_pos hi]
      exact this
    refine ⟨(List.range len).map f, by rw [hc]; rfl, one_cell rfl ?_⟩
    refine ⟨some a, cap, by simp, by simpa using hl, hm, ?_⟩
    by_cases hl0 : len = 0
    · subst hl0; exact .inl ⟨rfl, fun h => by cases h⟩
    · right
      obtain ⟨u, hu, _⟩ := hf 0 (by omega) 0 h0
      have hu0 : w.cell? a = some u := by simpa [Addr.add] using hu
      obtain ⟨b, off, spot⟩ := a
      have hspot : spot = none := World.cell?_spot hu0
      subst hspot
      refine ⟨b, off, rfl, cell_lt hu0, fun j x hx i hi => ?_⟩
      have hj : j < len := by
        have := (List.getElem?_eq_some_iff.1 hx).1
        simpa using this
      rw [List.getElem?_map, List.getElem?_range hj] at hx
      simp only [Option.map_some, Option.some.injEq] at hx
      subst hx
      obtain ⟨u', h1, h2⟩ := hf j hj i hi
      rw [add_mk, add_mk] at h1
      exact ⟨u', h1, h2⟩
def ReadsF (P : Program) (fl : List Field) (off : Nat) (α : Type) (row : α → Nat → SC) (n : Nat) : Prop :=
  ∀ {H : Type} {enc : TypeId × Value → H} {w : World} {spare : Nat → Bool} {held : Bool} {fuel : Nat} {cs : List Value}, (∀ f ∈ fl, ∃ x, DataW.trod enc P w 0 spare held fuel f.type ((cs.drop f.offset).take (P.cellsOf f.type)) = some x) →
    ∃ a : α, ∀ (i : Nat) (v : Value), i < n → cs[off + i]? = some v → MS (Iw w) w (row a i) v
theorem ReadsF.nil {P : Program} {off : Nat} : ReadsF P [] off Unit (fun _ _ => .any) 0 := by
  intro H enc w spare held fuel cs h
  exact ⟨(), fun i v hi => by omega⟩
theorem ReadsF.cons {P : Program} {f : Field} {fl : List Field} {off k n : Nat} {α β : Type} {row : α → Nat → SC} {row' : β → Nat → SC} (h : Reads P f.type α row) (hk : P.cellsOf f.type = k) (ho : f.offset = off) (hf : ReadsF P fl (off + k) β row' n) :
    ReadsF P (f :: fl) off (α × β) (fun x i => if i < k then row x.1 i else row' x.2 (i - k)) (k + n) := by
  intro H enc w spare held fuel cs hx
  obtain ⟨x, h1⟩ := hx f (List.mem_cons_self ..)
  obtain ⟨a, ha, hb⟩ := h h1
  obtain ⟨b, hb'⟩ := hf fun g hg => hx g (List.mem_cons_of_mem _ hg)
  refine ⟨(a, b), fun i v hi hv => ?_⟩
  by_cases hik : i < k
  · simp only [if_pos hik]
    refine hb i v ?_
    rw [List.getElem?_take_of_lt (by rw [hk]; exact hik), List.getElem?_drop, ho]
    exact hv
  · simp only [if_neg hik]
    refine hb' (i - k) v (by omega) ?_
    rw [show off + k + (i - k) = off + i by omega]
    exact hv
theorem Reads.arg {P : Program} {t : TypeId} {α : Type} {row : α → Nat → SC} (hr : Reads P t α row) {H : Type} {enc : TypeId × Value → H} {w : World} {spare : Nat → Bool} {held : Bool} {v : Value} {d : DataW H} {ps : List MemPlace}
    (h : DataW.Trod enc P w 0 spare held t v d ps) (hv : v.cells.toList = [v]) : ∃ a : α, MS (Iw w) w (row a 0) v := by
  obtain ⟨fuel, hf⟩ := h
  obtain ⟨a, _, h2⟩ := hr hf
  exact ⟨a, h2 0 v (by rw [hv]; rfl)⟩
def Γw (w : World) : Ctx := ⟨Iw w, fun _ => 0, fun _ => undef⟩
theorem law_walk {P : Program} {f : FuncId} {args : List TV} {cargs : Array Value} {w : World} (h : Pure P f args (vc (bo true))) (hG : GlobOk (Iw w) w) (hm : MTs (Γw w) w args cargs.toList) :
    Calls P f cargs w fun e w' => e = .returned (.bool true) ∧ Below w.heap.size w w' := by
  refine (h.2 (Γw w) w cargs ⟨fun id ob h => (by cases h), fun id ob b h => (by cases h), fun id ob id' ob' b h => (by cases h), fun b hb => hb, hG⟩ hm).mono ?_
  rintro e w' ⟨v, Γ', rfl, hv, _, hg, _⟩
  obtain rfl : v = .bool true := hv
  exact ⟨rfl, hg.os, hg.tape, hg.output, hg.size, fun b hb => hg.keep b ⟨hb, fun id o h => (by cases h)⟩⟩
end AL
namespace AL
open Go Go.Proofs
set_option linter.unusedVariables false
theorem mixed : Tryz.prog.follows .mixedOrders = true := Tryz.checked.mixed
theorem own : ownKnob Tryz.prog.godebug = none := by kernel_rfl
theorem laidOut : laidOutB Tryz.prog = true := by kernel_rfl
end AL
namespace AL
open Go
set_option linter.unusedVariables false
end AL
namespace AL
open Go
set_option linter.unusedVariables false
theorem mcs_ofS {Γ : Ctx} {w : World} : ∀ (k : Nat) (f : Nat → SC) (vs : List Value), vs.length = k → (∀ i v, vs[i]? = some v → MS Γ.I w (f i) v) → MCs Γ w (ofS k f) vs := by
  intro k f vs hl h
  have key : ∀ (l : List Nat) (vs : List Value), vs.length = l.length → (∀ (i : Nat) (v : Value) (q : Nat), vs[i]? = some v → l[i]? = some q → MS Γ.I w (f q) v) → MCs Γ w (l.map fun i => AC.s (f i)) vs := by
    intro l
    induction l with
    | nil => intro vs hl _; cases vs with
      | nil => trivial
      | cons v vs => simp at hl
    | cons q l ih =>
      intro vs hl h
      cases vs with
      | nil => simp at hl
      | cons v vs => exact ⟨h 0 v q rfl rfl, ih vs (by simpa using hl) fun i u q' h1 h2 => h (i + 1) u q' h1 h2⟩
  refine key (List.range k) vs (by simpa using hl) fun i v q h1 h2 => ?_
  have hi : i < k := by
    have := (List.getElem?_eq_some_iff.1 h2).1
    simpa using this
  rw [List.getElem?_range hi] at h2
  cases h2
  exact h i v h1
theorem Reads.agg {P : Program} {t : TypeId} {α : Type} {row : α → Nat → SC} {k : Nat} (hr : Reads P t α row) (hk : P.cellsOf t = k) {H : Type} {enc : TypeId × Value → H} {w : World} {spare : Nat → Bool} {held : Bool} {cs : Array Value} {d : DataW H} {ps : List MemPlace}
    (h : DataW.Trod enc P w 0 spare held t (.agg cs) d ps) : ∃ a : α, MT (Γw w) w (.agg (ofS k (row a))) (.agg cs) := by
  obtain ⟨fuel, hf⟩ := h
  obtain ⟨a, h1, h2⟩ := hr hf
  exact ⟨a, cs, rfl, mcs_ofS k _ _ (by rw [← hk, ← h1]; rfl) h2⟩
theorem MCs.int {Γ : Ctx} {w : World} {k : IntKind} {n : Int} : ∀ {l : List AC} {vs : List Value} {i : Nat}, MCs Γ w l vs → l[i]? = some (.s (.int k n)) → InR k n
  | c :: l, v :: vs, 0, h, hi => by simp at hi; subst hi; exact h.1.2
  | c :: l, v :: vs, i + 1, h, hi => MCs.int h.2 (by simpa using hi)
  | [], [], i, _, hi => by simp at hi
theorem AMx.cell {P : Program} {R : Exit → AS → Prop} {k : List KI} {c : Code} {s : AS} (t : Nat) (i : Nat) {l : List AC} {ik n} (ht : s.reg t = .t (.agg l)) (hi : l[i]? = some (.s (.int ik n))) (h : InR ik n → AMx P R (.code c :: k) .normal s) : AMx P R (.code c :: k) .normal s :=
  AMx.learn _ (fun G Γ a w hC => by have := hC.regs t; rw [ht] at this; obtain ⟨cs, _, hm⟩ := this; exact hm.int hi) h
end AL
namespace AL
open Go
set_option linter.unusedVariables false
def AC.le (a b : AC) : Prop := ∀ Γ w v, MC Γ w a v → MC Γ w b v
def acsLe : List AC → List AC → Prop
  | [], [] => True
  | a :: l, b :: m => AC.le a b ∧ acsLe l m
  | _, _ => False
def TV.le (a b : TV) : Prop := ∀ Γ w v, MT Γ w a v → MT Γ w b v
def tvsLe : List TV → List TV → Prop
  | [], [] => True
  | a :: l, b :: m => TV.le a b ∧ tvsLe l m
  | _, _ => False
def AV.le (a b : AV) : Prop := ∀ Γ obj w v, MV Γ obj w a v → MV Γ obj w b v
theorem AC.le_rfl {a : AC} : AC.le a a := fun _ _ _ h => h
theorem TV.le_rfl {a : TV} : TV.le a a := fun _ _ _ h => h
theorem AC.le_nil {k α d row} : AC.le (.s .nilsl) (.s (.sl k α d row [])) := by
  intro Γ w v h
  have h : v = .slice none 0 0 := h
  subst h
  exact ⟨none, 0, rfl, Nat.le_refl _, Nat.zero_le _, .inl ⟨rfl, fun _ => rfl⟩⟩
theorem acsLe.ok {Γ w} : ∀ {l m : List AC} {vs : List Value}, acsLe l m → MCs Γ w l vs → MCs Γ w m vs
  | [], [], _, _, h => h
  | _ :: _, _ :: _, _ :: _, h, h' => ⟨h.1 _ _ _ h'.1, acsLe.ok h.2 h'.2⟩
  | [], _ :: _, _, h, _ => h.elim
  | _ :: _, [], _, h, _ => h.elim
  | _ :: _, _ :: _, [], _, h => h.elim
theorem TV.le_c {a b : AC} (h : AC.le a b) : TV.le (.c a) (.c b) := fun Γ w v hv => h Γ w v hv
theorem TV.le_agg {l m : List AC} (h : acsLe l m) : TV.le (.agg l) (.agg m) := fun Γ w v ⟨cs, e, hm⟩ => ⟨cs, e, h.ok hm⟩
theorem tvsLe.ok {Γ w} : ∀ {l m : List TV} {vs : List Value}, tvsLe l m → MTs Γ w l vs → MTs Γ w m vs
  | [], [], _, _, h => h
  | _ :: _, _ :: _, _ :: _, h, h' => ⟨h.1 _ _ _ h'.1, tvsLe.ok h.2 h'.2⟩
  | [], _ :: _, _, h, _ => h.elim
  | _ :: _, [], _, h, _ => h.elim
  | _ :: _, _ :: _, [], _, h => h.elim
theorem AV.le_t {a b : TV} (h : TV.le a b) : AV.le (.t a) (.t b) := fun Γ obj w v hv => h Γ w v hv
theorem Spec.weak {P : Program} {f : FuncId} {args args' : List TV} {H H' : Nat → Option AObj} {res : AV} (h : tvsLe args args') (hs : Spec P f args' H res H') : Spec P f args H res H' :=
  ⟨hs.1, fun Γ w cargs hh hm => hs.2 Γ w cargs hh (h.ok hm)⟩
theorem ent_weak {s : AS} (t : Nat) {v v' : AV} (ht : s.reg t = v) (h : AV.le v v') : s.ent (s.set (some t) v') := by
  intro G Γ a w hC
  refine ⟨Γ, hC.size, hC.defers, fun t' => ?_, hC.heap, hC.g, hC.ids⟩
  simp only [AS.set]
  by_cases hx : t' = t
  · subst hx
    rw [Nat.beq_refl]
    have := hC.regs t'
    rw [ht] at this
    exact h _ _ _ _ this
  · rw [beq_false hx]; exact hC.regs t'
theorem ent_row {s : AS} (id : Nat) {l m : List AC} (ho : s.obj id = some (.row l)) (h : acsLe l m) : s.ent ⟨s.n, s.reg, fun j => bif Nat.beq j id then some (.row m) else s.obj j⟩ := by
  intro G Γ a w hC
  have key : ∀ j o, (bif Nat.beq j id then some (.row m) else s.obj j) = some o → ∃ o', s.obj j = some o' ∧ o'.width = o.width ∧ (∀ b, fp Γ j o b → fp Γ j o' b) ∧ (MO Γ w j o' → MO Γ w j o) := by
    intro j o hj
    by_cases hx : j = id
    · subst hx
      rw [Nat.beq_refl] at hj
      cases hj
      refine ⟨_, ho, rfl, fun b hb => hb, ?_⟩
      rintro ⟨cs, T, h1, h2⟩
      exact ⟨cs, T, h1, h.ok h2⟩
    · rw [beq_false hx] at hj
      exact ⟨o, hj, rfl, fun b hb => hb, fun h => h⟩
  refine ⟨Γ, hC.size, hC.defers, fun t => ?_, ⟨fun j o hj => ?_, fun j o b hj hb => ?_, fun j o j' o' b hj hj' hb hb' => ?_, hC.heap.ilt, hC.heap.glob⟩, ⟨hC.g.os, hC.g.tape, hC.g.output, hC.g.size, hC.g.prlt, hC.g.keep, hC.g.sub, hC.g.bak, fun j o b hj hb => ?_⟩, hC.ids⟩
  · refine MV.ext (D := fun _ => False) ⟨fun b hb => hb, fun b hb => rfl, fun _ _ => ⟨rfl, rfl⟩⟩ (fun j o _ hj => ?_) (fun d hd => hd.elim) (hC.regs t)
    obtain ⟨o', h1, h2, _⟩ := key j o hj
    exact ⟨o', h1, h2.symm⟩
  · obtain ⟨o', h1, _, _, h4⟩ := key j o hj
    exact h4 (hC.heap.objs j o' h1)
  · obtain ⟨o', h1, _, h3, _⟩ := key j o hj
    exact hC.heap.lt j o' b h1 (h3 b hb)
  · obtain ⟨o1, h1, _, h3, _⟩ := key j o hj
    obtain ⟨o2, g1, _, g3, _⟩ := key j' o' hj'
    exact hC.heap.inj j o1 j' o2 b h1 g1 (h3 b hb) (g3 b hb')
  · obtain ⟨o', h1, _, h3, _⟩ := key j o hj
    exact hC.g.own j o' b h1 (h3 b hb)
section
variable {P : Program} {R : Exit → AS → Prop} {K : List KI} {s : AS}
end
theorem MCs.len {Γ : Ctx} {w : World} {k : Nat} {α : Type} {d : α} {row : α → Nat → SC} {m : List α} : ∀ {l : List AC} {vs : List Value} {i : Nat}, MCs Γ w l vs → l[i]? = some (.s (.sl k α d row m)) → m.length ≤ maxLen
  | c :: l, v :: vs, 0, h, hi => by
    simp at hi; subst hi
    obtain ⟨a, cap, _, h1, h2, _⟩ := (show MS Γ.I w (.sl k α d row m) v from h.1)
    omega
  | c :: l, v :: vs, i + 1, h, hi => MCs.len h.2 (by simpa using hi)
  | [], [], i, _, hi => by simp at hi
section
variable {P : Program} {R : Exit → AS → Prop} {K : List KI} {s : AS}
end
def isGrow : AObj → Bool
  | .grow .. => true
  | _ => false
def RetO (P : Program) (fn : Func) (o : AObj) (e : Exit) (s : AS) : Prop :=
  (e = .ret ∨ e = .normal) ∧ ∃ id o', evRes P fn s = some (.t (.c (.own id))) ∧ s.obj id = some o' ∧ o' = o
theorem Own.of_body {P : Program} {f : FuncId} {fn : Func} {c : Code} {args : List TV} {o : AObj} {n : Nat} (hf : P.funcs[f]? = some fn) (hb : fn.body = some c) (hn : (fn.name == "runtime.NumGoroutine") = false)
    (hnt : fn.ntmps = n) (hle : Nat.ble args.length n = true) (hg : isGrow o = true) (h : AMx P (RetO P fn o) [.code c] .normal (AS.lst n (argRegs 0 args) [])) (d : Nat) : Spec P f args H0 (vo d) (ofH [(d, o)]) := by
  refine ⟨⟨fn, hf, by rw [hb]; rfl, hn⟩, fun Γ w cargs hh hm => ?_⟩
  refine calls_of_wp hf hb ?_
  have hC := body_start (P := P) (H := []) hnt hle hh hm
  refine wp_mono (h _ _ _ _ hC) ?_
  rintro e a' w' ⟨s', Γ', ⟨he, id, _, hr, hid, rfl⟩, hC'⟩
  obtain ⟨v, h1, h2, h3⟩ := res_ok (P := P) (fn := fn) hC' hr
  rename_i o
  have hpost : a'.defers = [] ∧ ∃ v, (results fn a'.tmps).run P w' = Result.ok v w' ∧ ∃ v_1 Γ', Ending.returned v = .returned v_1 ∧ MV Γ' (ofH [(d, o)]) w' (vo d) v_1 ∧ HeapOk Γ' (ofH [(d, o)]) w' ∧ GOk ⟨w, prOf Γ (ofH []) w, Γ.I, Γ.ρ, Γ.η⟩ Γ' (ofH [(d, o)]) w' ∧ Agree (fun id => ofH [(d, o)] id ≠ none ∧ H0 id = none) Γ Γ' := by
    let Γ2 : Ctx := ⟨Γ'.I, fun j => bif Nat.beq j d then Γ'.ρ id else Γ.ρ j, fun j => bif Nat.beq j d then Γ'.η id else Γ.η j⟩
    have er : Γ2.ρ d = Γ'.ρ id := by show (bif Nat.beq d d then _ else _) = _; rw [Nat.beq_refl]; rfl
    have ee : Γ2.η d = Γ'.η id := by show (bif Nat.beq d d then _ else _) = _; rw [Nat.beq_refl]; rfl
    have hfp : ∀ b, fp Γ2 d o b → fp Γ' id o b := fun b hb => by
      unfold fp at hb ⊢
      rw [er, ee] at hb
      exact hb
    refine ⟨hC'.defers, v, h1, v, Γ2, rfl, ?_, ⟨fun j o' hj => ?_, fun j o' b hj hb => ?_, fun j o1 j' o2 b hj hj' _ _ => ?_, hC'.heap.ilt, hC'.heap.glob⟩,
      ⟨hC'.g.os, hC'.g.tape, hC'.g.output, hC'.g.size, hC'.g.prlt, hC'.g.keep, hC'.g.sub, hC'.g.bak, fun j o' b hj hb => ?_⟩, fun j hj => ?_⟩
    · have h2' : v = Γ'.η id ∧ v.oneCell' = true := h2
      exact ⟨h2'.1.trans ee.symm, h2'.2⟩
    · obtain ⟨rfl, rfl⟩ := ofH_one.1 hj
      have := hC'.heap.objs id _ hid
      cases o' with
      | grow T k α dd row l =>
        unfold MO at this ⊢
        rw [er, ee]
        exact this
      | _ => cases hg
    · obtain ⟨rfl, rfl⟩ := ofH_one.1 hj
      exact hC'.heap.lt id _ b hid (hfp b hb)
    · obtain ⟨rfl, _⟩ := ofH_one.1 hj
      obtain ⟨rfl, _⟩ := ofH_one.1 hj'
      rfl
    · obtain ⟨rfl, rfl⟩ := ofH_one.1 hj
      exact hC'.g.own id _ b hid (hfp b hb)
    · have : j ≠ d := fun e => hj ⟨by subst e; rw [ofH_one.2 ⟨rfl, rfl⟩]; simp, rfl⟩
      refine ⟨?_, ?_⟩
      · show (bif Nat.beq j d then _ else _) = _; rw [beq_false this]; rfl
      · show (bif Nat.beq j d then _ else _) = _; rw [beq_false this]; rfl
  rcases he with rfl | rfl
  · exact hpost
  · exact hpost
end AL
namespace AL
open Go
set_option linter.unusedVariables false
theorem MCs.set_own {Γ : Ctx} {w : World} {d : Nat} {post : List AC} : ∀ {pre : List AC} {vs : List Value}, Γ.η d = .slice none 0 0 → MCs Γ w (pre ++ .s .nilsl :: post) vs → MCs Γ w (pre ++ .own d :: post) vs
  | [], v :: vs, hη, h => by
    refine ⟨?_, h.2⟩
    have h1 : v = .slice none 0 0 := h.1
    subst h1
    exact ⟨hη.symm, rfl⟩
  | c :: pre, v :: vs, hη, h => ⟨h.1, MCs.set_own hη h.2⟩
  | [], [], _, h => h.elim
  | _ :: _, [], _, h => h.elim
theorem ent_adoptO {n : Nat} {L : List (Nat × AV)} {H : List (Nat × AObj)} (h d : Nat) (pre post : List AC) (T : TypeId) (k : Nat) (α : Type) (dd : α) (row : α → Nat → SC) (ho : ofH H h = some (.row (pre ++ .s .nilsl :: post)))
    (hd : Nat.blt d n = true) (hf : hasL d L = false) (hf' : hasO d H = false) :
    (AS.lst n L H).ent ⟨n, lkp L, fun j => bif Nat.beq j d then some (.grow T k α dd row []) else bif Nat.beq j h then some (.row (pre ++ .own d :: post)) else ofH H j⟩ := by
  intro G Γ a w hC
  obtain ⟨f1, f2⟩ := hasO_ok hf'
  let Γ' := mkΓ Γ d (Γ.ρ d) (.slice none 0 0)
  have hext : Ext (fun id => id = d) Γ w Γ' w := ⟨fun b hb => hb, fun b _ => rfl, mk_agree Γ d _ _⟩
  have hdh : h ≠ d := fun e => by subst e; rw [f1] at ho; cases ho
  have hobj : ∀ j o, (bif Nat.beq j d then some (AObj.grow T k α dd row []) else bif Nat.beq j h then some (.row (pre ++ .own d :: post)) else ofH H j) = some o →
      (j = d ∧ o = .grow T k α dd row []) ∨ (j ≠ d ∧ j = h ∧ o = .row (pre ++ .own d :: post)) ∨ (j ≠ d ∧ j ≠ h ∧ ofH H j = some o) := by
    intro j o hj
    by_cases h1 : j = d
    · subst h1; rw [Nat.beq_refl] at hj; cases hj; exact .inl ⟨rfl, rfl⟩
    · rw [beq_false h1] at hj
      by_cases h2 : j = h
      · subst h2; rw [Nat.beq_refl] at hj; cases hj; exact .inr (.inl ⟨h1, rfl, rfl⟩)
      · rw [beq_false h2] at hj; exact .inr (.inr ⟨h1, h2, hj⟩)
  have hfp : ∀ j o b, j ≠ d → fp Γ' j o b → fp Γ j o b := fun j o b hj h => (fp.ext (mk_agree Γ d (Γ.ρ d) (.slice none 0 0)) hj).1 h
  have hnf : ∀ b, ¬ fp Γ' d (.grow T k α dd row []) b := fun b h => by
    have := h.2
    simp only [Γ', mk_η] at this
    exact this rfl
  have hrow : ∀ b, fp Γ' h (.row (pre ++ .own d :: post)) b → fp Γ h (.row (pre ++ .s .nilsl :: post)) b := fun b hb => (fp.ext (mk_agree Γ d (Γ.ρ d) (.slice none 0 0)) hdh).1 (show fp Γ' h (.row (pre ++ .s .nilsl :: post)) b from hb)
  have hmo : MO Γ' w h (.row (pre ++ .s .nilsl :: post)) := MO.ext hext hdh (fun e he => by subst he; exact f2 h _ ho) (fun b _ => rfl) (hC.heap.objs h _ ho)
  have old : ∀ j o, (bif Nat.beq j d then some (AObj.grow T k α dd row []) else bif Nat.beq j h then some (.row (pre ++ .own d :: post)) else ofH H j) = some o → j ≠ d → ∃ o', ofH H j = some o' ∧ o'.width = o.width ∧ ∀ b, fp Γ' j o b → fp Γ j o' b := by
    intro j o hj hjd
    rcases hobj j o hj with ⟨h1, _⟩ | ⟨_, rfl, rfl⟩ | ⟨h1, h2, h3⟩
    · exact absurd h1 hjd
    · exact ⟨_, ho, rfl, hrow⟩
    · exact ⟨o, h3, rfl, fun b => hfp j o b h1⟩
  refine ⟨Γ', ⟨hC.size, hC.defers, fun u => ?_, ⟨fun j o hj => ?_, fun j o b hj hb => ?_, fun j o j' o' b hj hj' hb hb' => ?_, hC.heap.ilt, hC.heap.glob⟩, ⟨hC.g.os, hC.g.tape, hC.g.output, hC.g.size, hC.g.prlt, hC.g.keep, hC.g.sub, hC.g.bak, fun j o b hj hb => ?_⟩, fun i hi => ?_⟩⟩
  · refine MV.ext hext (fun j o hj ho' => ?_) (fun e he => by subst he; exact hasL_ok hf u) (hC.regs u)
    obtain ⟨o', h1, h2, _⟩ := old j o ho' hj
    exact ⟨o', h1, h2.symm⟩
  · rcases hobj j o hj with ⟨rfl, rfl⟩ | ⟨h1, rfl, rfl⟩ | ⟨h1, h2, h3⟩
    · exact .inl ⟨by simp only [Γ', mk_η], rfl⟩
    · obtain ⟨cs, T', q1, q2⟩ := hmo
      exact ⟨cs, T', q1, q2.set_own (by simp only [Γ', mk_η])⟩
    · exact MO.ext hext h1 (fun e he => by subst he; exact f2 j o h3) (fun b _ => rfl) (hC.heap.objs j o h3)
  · by_cases hjd : j = d
    · rcases hobj j o hj with ⟨rfl, rfl⟩ | ⟨h1, _⟩ | ⟨h1, _⟩
      · exact absurd hb (hnf b)
      · exact absurd hjd h1
      · exact absurd hjd h1
    · obtain ⟨o', h1, _, h3⟩ := old j o hj hjd
      exact hC.heap.lt j o' b h1 (h3 b hb)
  · by_cases hjd : j = d
    · rcases hobj j o hj with ⟨rfl, rfl⟩ | ⟨h1, _⟩ | ⟨h1, _⟩
      · exact absurd hb (hnf b)
      · exact absurd hjd h1
      · exact absurd hjd h1
    · by_cases hjd' : j' = d
      · rcases hobj j' o' hj' with ⟨rfl, rfl⟩ | ⟨h1, _⟩ | ⟨h1, _⟩
        · exact absurd hb' (hnf b)
        · exact absurd hjd' h1
        · exact absurd hjd' h1
      · obtain ⟨o1, h1, _, h3⟩ := old j o hj hjd
        obtain ⟨o2, g1, _, g3⟩ := old j' o' hj' hjd'
        exact hC.heap.inj j o1 j' o2 b h1 g1 (h3 b hb) (g3 b hb')
  · by_cases hjd : j = d
    · rcases hobj j o hj with ⟨rfl, rfl⟩ | ⟨h1, _⟩ | ⟨h1, _⟩
      · exact absurd hb (hnf b)
      · exact absurd hjd h1
      · exact absurd hjd h1
    · obtain ⟨o', h1, _, h3⟩ := old j o hj hjd
      exact hC.g.own j o' b h1 (h3 b hb)
  · have hdn := Nat.le_of_ble_eq_true hd
    obtain ⟨e1, e2⟩ := mk_agree Γ d (Γ.ρ d) (.slice none 0 0) i (by have : n ≤ i := hi; omega)
    show (mkΓ Γ d (Γ.ρ d) (.slice none 0 0)).ρ i = _ ∧ (mkΓ Γ d (Γ.ρ d) (.slice none 0 0)).η i = _
    rw [e1, e2]
    exact hC.ids i hi
end AL
namespace AL
open Go
set_option linter.unusedVariables false
structure OneRow (α : Type) [Inhabited α] (row : α → Nat → SC) (enc : α → Value) (good : α → Prop) : Prop where
  ms : ∀ {I w x v}, MS I w (row x 0) v → v = enc x ∧ good x
  put : ∀ {I w x}, good x → MS I w (row x 0) (enc x)
section
variable {P : Program} {f : FuncId} {α : Type} [Inhabited α] {row : α → Nat → SC} {enc : α → Value} {good : α → Prop} {d : α} {T : TypeId} {l : List α}
end
theorem Pure.of_calls {P : Program} {f : FuncId} {args : List TV} {res : AV} (hc : Callable P f)
    (h : ∀ Γ w cargs, MTs Γ w args cargs.toList → Calls P f cargs w fun e w' => ∃ v, e = .returned v ∧ w' = w ∧ MV Γ H0 w res v) : Pure P f args res := by
  refine ⟨hc, fun Γ w cargs hh hm => (h Γ w cargs hm).mono ?_⟩
  rintro e w' ⟨v, rfl, rfl, hv⟩
  exact ⟨v, Γ, rfl, hv, hh, ⟨rfl, rfl, rfl, Nat.le_refl _, fun b hb => hb.1, fun b hb => rfl, fun b hb => hb, fun b _ hb => hb, fun j o b hj _ _ => by cases hj⟩, fun _ _ => ⟨rfl, rfl⟩⟩
theorem args2 {Γ : Ctx} {w : World} {a b : TV} {cargs : Array Value} (h : MTs Γ w [a, b] cargs.toList) : ∃ u v, cargs = #[u, v] ∧ MT Γ w a u ∧ MT Γ w b v := by
  have := h.length
  rw [Array.length_toList] at this
  match cargs, this, h with
  | ⟨[u, v]⟩, _, h => exact ⟨u, v, rfl, h.1, h.2.1⟩
end AL
namespace AL
open Go
set_option linter.unusedVariables false
end AL
namespace AL
open Go Go.RowKit
set_option linter.unusedVariables false
theorem HeapOk.below {Γ : Ctx} {w w' : World} (hh : HeapOk Γ H0 w) (hb : Below w.heap.size w w') : HeapOk Γ H0 w' :=
  ⟨fun _ _ h => (by cases h), fun _ _ _ h => (by cases h), fun _ _ _ _ _ h => (by cases h), fun b hi => Nat.lt_of_lt_of_le (hh.ilt b hi) hb.size, hh.glob.mono (fun b h => h) fun b hi => hb.block b (hh.ilt b hi)⟩
theorem Pure.of_below {P : Program} {f : FuncId} {args : List TV} {res : AV} (hc : Callable P f)
    (h : ∀ Γ w cargs, HeapOk Γ H0 w → MTs Γ w args cargs.toList → Calls P f cargs w fun e w' => ∃ v, e = .returned v ∧ Below w.heap.size w w' ∧ MV Γ H0 w' res v) : Pure P f args res := by
  refine ⟨hc, fun Γ w cargs hh hm => (h Γ w cargs hh hm).mono ?_⟩
  rintro e w' ⟨v, rfl, hb, hv⟩
  exact ⟨v, Γ, rfl, hv, hh.below hb, ⟨hb.os, hb.tape, hb.output, hb.size, fun b hb => hb.1, fun b hp => hb.block b hp.1, fun b hb => hb, fun b _ hb => hb, fun j o b hj _ _ => by cases hj⟩, fun _ _ => ⟨rfl, rfl⟩⟩
theorem Pure.below {P : Program} {f : FuncId} {args : List TV} {res : AV} (h : Pure P f args res) {Γ : Ctx} {w : World} {cargs : Array Value} (hh : HeapOk Γ H0 w) (hm : MTs Γ w args cargs.toList) :
    Calls P f cargs w fun e w' => ∃ v Γ', e = .returned v ∧ MV Γ' H0 w' res v ∧ Below w.heap.size w w' := by
  refine (h.2 Γ w cargs hh hm).mono ?_
  rintro e w' ⟨v, Γ', rfl, hv, _, hg, _⟩
  exact ⟨v, Γ', rfl, hv, hg.os, hg.tape, hg.output, hg.size, fun b hb => hg.keep b ⟨hb, fun id o h => (by cases h)⟩⟩
theorem args1 {Γ : Ctx} {w : World} {a : TV} {cargs : Array Value} (h : MTs Γ w [a] cargs.toList) : ∃ u, cargs = #[u] ∧ MT Γ w a u := by
  have := h.length
  rw [Array.length_toList] at this
  match cargs, this, h with
  | ⟨[u]⟩, _, h => exact ⟨u, rfl, h.1⟩
end AL
namespace AL
open Go
set_option linter.unusedVariables false
def RetIO (P : Program) (fn : Func) (res : AV) (D : Nat) (o : AObj) (e : Exit) (s : AS) : Prop :=
  (e = .ret ∨ e = .normal) ∧ ∃ r o', evRes P fn s = some r ∧ r = res ∧ s.obj D = some o' ∧ o' = o ∧ Nat.ble s.n D = true
theorem IO.of_body {P : Program} {f : FuncId} {fn : Func} {c : Code} {rest : List TV} {res : AV} {n D : Nat} {row row' : List AC} (hf : P.funcs[f]? = some fn) (hb : fn.body = some c) (hn : (fn.name == "runtime.NumGoroutine") = false)
    (hnt : fn.ntmps = n) (hle : Nat.ble (rest.length + 1) n = true) (hno : res.no = true) (hr : tvsNo rest = true) (hi : acsNo row = true) (ho : acsNo row' = true)
    (h : AMx P (RetIO P fn res D (.row row')) [.code c] .normal (AS.lst n (argRegs 0 (.c (.ptr D 0) :: rest)) [(D, .row row)])) (d : Nat) :
    Spec P f (.c (.ptr d 0) :: rest) (ofH [(d, .row row)]) res (ofH [(d, .row row')]) := by
  refine ⟨⟨fn, hf, by rw [hb]; rfl, hn⟩, fun Γ w cargs hh hm => ?_⟩
  refine calls_of_wp hf hb ?_
  let Γ1 : Ctx := ⟨Γ.I, fun j => bif Nat.beq j D then Γ.ρ d else Γ.ρ j, fun j => bif Nat.beq j D then Γ.η d else Γ.η j⟩
  have er : Γ1.ρ D = Γ.ρ d := by show (bif Nat.beq D D then _ else _) = _; rw [Nat.beq_refl]; rfl
  have hx1 : Ext (fun _ => True) Γ w Γ1 w := ⟨fun b hb => hb, fun b hb => rfl, fun id h => absurd trivial h⟩
  have hfp : ∀ o b, fp Γ1 D (.row o) b ↔ fp Γ d (.row o) b := fun o b => by unfold fp; rw [er]
  have hh1 : HeapOk Γ1 (ofH [(D, .row row)]) w := by
    refine ⟨fun j o hj => ?_, fun j o b hj hb => ?_, fun j o j' o' b hj hj' _ _ => ?_, hh.ilt, hh.glob⟩
    · obtain ⟨rfl, rfl⟩ := ofH_one.1 hj
      obtain ⟨cs, T, h1, h2⟩ := hh.objs d _ (ofH_one.2 ⟨rfl, rfl⟩)
      exact ⟨cs, T, by rw [er]; exact h1, MCs.ext hx1 (acsNo_has row hi) h2⟩
    · obtain ⟨rfl, rfl⟩ := ofH_one.1 hj
      exact hh.lt d _ b (ofH_one.2 ⟨rfl, rfl⟩) ((hfp _ _).1 hb)
    · obtain ⟨rfl, _⟩ := ofH_one.1 hj
      obtain ⟨rfl, _⟩ := ofH_one.1 hj'
      rfl
  have hm1 : MTs Γ1 w (.c (.ptr D 0) :: rest) cargs.toList := by
    revert hm
    cases cargs.toList with
    | nil => intro h; exact h.elim
    | cons v l =>
      intro h
      refine ⟨?_, MTs.ext hx1 (tvsNo_has rest hr) h.2⟩
      have h0 : v = .pointer (some ⟨Γ.ρ d, 0, none⟩) := h.1
      show v = .pointer (some ⟨Γ1.ρ D, 0, none⟩)
      rw [er]; exact h0
  have hpr : prOf Γ1 (ofH [(D, .row row)]) w = prOf Γ (ofH [(d, .row row)]) w := by
    funext b
    apply propext
    constructor
    · rintro ⟨h1, h2⟩
      refine ⟨h1, fun j o hj hb => ?_⟩
      obtain ⟨rfl, rfl⟩ := ofH_one.1 hj
      exact h2 D _ (ofH_one.2 ⟨rfl, rfl⟩) ((hfp _ _).2 hb)
    · rintro ⟨h1, h2⟩
      refine ⟨h1, fun j o hj hb => ?_⟩
      obtain ⟨rfl, rfl⟩ := ofH_one.1 hj
      exact h2 d _ (ofH_one.2 ⟨rfl, rfl⟩) ((hfp _ _).1 hb)
  have hC := body_start (P := P) (H := [(D, .row row)]) hnt (by exact hle) hh1 hm1
  refine wp_mono (h _ _ _ _ hC) ?_
  rintro e a' w' ⟨s', Γ', ⟨he, r, _, hr, rfl, hD', rfl, hsn⟩, hC'⟩
  obtain ⟨v, h1, h2, h3⟩ := res_ok (P := P) (fn := fn) hC' hr
  have hpost : a'.defers = [] ∧ ∃ v, (results fn a'.tmps).run P w' = Result.ok v w' ∧ ∃ v_1 Γ', Ending.returned v = .returned v_1 ∧ MV Γ' (ofH [(d, .row row')]) w' r v_1 ∧ HeapOk Γ' (ofH [(d, .row row')]) w' ∧ GOk ⟨w, prOf Γ (ofH [(d, .row row)]) w, Γ.I, Γ.ρ, Γ.η⟩ Γ' (ofH [(d, .row row')]) w' ∧ Agree (fun id => ofH [(d, .row row')] id ≠ none ∧ ofH [(d, .row row)] id = none) Γ Γ' := by
    let Γ2 : Ctx := ⟨Γ'.I, Γ.ρ, Γ.η⟩
    have hx : Ext (fun _ => True) Γ' w' Γ2 w' := ⟨fun b hb => hb, fun b hb => rfl, fun id h => absurd trivial h⟩
    have eD : Γ'.ρ D = Γ.ρ d := by
      have := (hC'.ids D (Nat.le_of_ble_eq_true hsn)).1
      exact this.trans er
    have hfp2 : ∀ b, fp Γ2 d (.row row') b → fp Γ' D (.row row') b := fun b hb => by
      unfold fp at hb ⊢
      rw [eD]; exact hb
    have hg := hC'.g
    rw [hpr] at hg
    refine ⟨hC'.defers, v, h1, v, Γ2, rfl, MV.ext hx (fun id o h => absurd trivial h) (AV.no_has r hno) (plain_obj (obj' := ofH [(d, .row row')]) h3 h2), ⟨fun j o hj => ?_, fun j o b hj hb => ?_, fun j o j' o' b hj hj' _ _ => ?_, hC'.heap.ilt, hC'.heap.glob⟩,
      ⟨hg.os, hg.tape, hg.output, hg.size, hg.prlt, hg.keep, hg.sub, hg.bak, fun j o b hj hb => ?_⟩, fun _ _ => ⟨rfl, rfl⟩⟩
    · obtain ⟨rfl, rfl⟩ := ofH_one.1 hj
      obtain ⟨cs, T, q1, q2⟩ := hC'.heap.objs D _ hD'
      exact ⟨cs, T, by rw [show Γ2.ρ j = Γ'.ρ D from eD.symm]; exact q1, MCs.ext hx (acsNo_has row' ho) q2⟩
    · obtain ⟨rfl, rfl⟩ := ofH_one.1 hj
      exact hC'.heap.lt D _ b hD' (hfp2 b hb)
    · obtain ⟨rfl, _⟩ := ofH_one.1 hj
      obtain ⟨rfl, _⟩ := ofH_one.1 hj'
      rfl
    · obtain ⟨rfl, rfl⟩ := ofH_one.1 hj
      exact hg.own D _ b hD' (hfp2 b hb)
  rcases he with rfl | rfl
  · exact hpost
  · exact hpost
end AL
namespace AL
open Go
set_option linter.unusedVariables false
theorem grow_mo {Γ Γ2 : Ctx} {w : World} {d id : Nat} {o : AObj} (hg : isGrow o = true) (er : Γ2.ρ d = Γ.ρ id) (ee : Γ2.η d = Γ.η id) (ei : Γ2.I = Γ.I) (h : MO Γ w id o) : MO Γ2 w d o := by
  cases o with
  | grow T k α dd row l =>
    unfold MO at h ⊢
    rw [er, ee, ei]
    exact h
  | _ => cases hg
theorem OwnIO.of_body {P : Program} {f : FuncId} {fn : Func} {c : Code} {rest : List TV} {n D : Nat} {o0 o : AObj} (hf : P.funcs[f]? = some fn) (hb : fn.body = some c) (hn : (fn.name == "runtime.NumGoroutine") = false)
    (hnt : fn.ntmps = n) (hle : Nat.ble (rest.length + 1) n = true) (hr : tvsNo rest = true) (h0 : isGrow o0 = true) (hg : isGrow o = true)
    (h : AMx P (RetO P fn o) [.code c] .normal (AS.lst n (argRegs 0 (.c (.own D) :: rest)) [(D, o0)])) (d d' : Nat) (hd : Nat.beq d d' = false) :
    Spec P f (.c (.own d) :: rest) (ofH [(d, o0)]) (vo d') (ofH [(d', o)]) := by
  refine ⟨⟨fn, hf, by rw [hb]; rfl, hn⟩, fun Γ w cargs hh hm => ?_⟩
  refine calls_of_wp hf hb ?_
  let Γ1 : Ctx := ⟨Γ.I, fun j => bif Nat.beq j D then Γ.ρ d else Γ.ρ j, fun j => bif Nat.beq j D then Γ.η d else Γ.η j⟩
  have er : Γ1.ρ D = Γ.ρ d := by show (bif Nat.beq D D then _ else _) = _; rw [Nat.beq_refl]; rfl
  have ee : Γ1.η D = Γ.η d := by show (bif Nat.beq D D then _ else _) = _; rw [Nat.beq_refl]; rfl
  have hx1 : Ext (fun _ => True) Γ w Γ1 w := ⟨fun b hb => hb, fun b hb => rfl, fun id h => absurd trivial h⟩
  have hfp : ∀ o b, fp Γ1 D o b ↔ fp Γ d o b := fun o b => by unfold fp; rw [er, ee]
  have hh1 : HeapOk Γ1 (ofH [(D, o0)]) w := by
    refine ⟨fun j o hj => ?_, fun j o b hj hb => ?_, fun j o j' o' b hj hj' _ _ => ?_, hh.ilt, hh.glob⟩
    · obtain ⟨rfl, rfl⟩ := ofH_one.1 hj
      exact grow_mo h0 er ee rfl (hh.objs d _ (ofH_one.2 ⟨rfl, rfl⟩))
    · obtain ⟨rfl, rfl⟩ := ofH_one.1 hj
      exact hh.lt d _ b (ofH_one.2 ⟨rfl, rfl⟩) ((hfp _ _).1 hb)
    · obtain ⟨rfl, _⟩ := ofH_one.1 hj
      obtain ⟨rfl, _⟩ := ofH_one.1 hj'
      rfl
  have hm1 : MTs Γ1 w (.c (.own D) :: rest) cargs.toList := by
    revert hm
    cases cargs.toList with
    | nil => intro h; exact h.elim
    | cons v l =>
      intro h
      refine ⟨?_, MTs.ext hx1 (tvsNo_has rest hr) h.2⟩
      have h0 : v = Γ.η d ∧ v.oneCell' = true := h.1
      exact ⟨h0.1.trans ee.symm, h0.2⟩
  have hpr : prOf Γ1 (ofH [(D, o0)]) w = prOf Γ (ofH [(d, o0)]) w := by
    funext b
    apply propext
    constructor
    · rintro ⟨h1, h2⟩
      refine ⟨h1, fun j o hj hb => ?_⟩
      obtain ⟨rfl, rfl⟩ := ofH_one.1 hj
      exact h2 D _ (ofH_one.2 ⟨rfl, rfl⟩) ((hfp _ _).2 hb)
    · rintro ⟨h1, h2⟩
      refine ⟨h1, fun j o hj hb => ?_⟩
      obtain ⟨rfl, rfl⟩ := ofH_one.1 hj
      exact h2 d _ (ofH_one.2 ⟨rfl, rfl⟩) ((hfp _ _).1 hb)
  have hC := body_start (P := P) (H := [(D, o0)]) hnt (by exact hle) hh1 hm1
  refine wp_mono (h _ _ _ _ hC) ?_
  rintro e a' w' ⟨s', Γ', ⟨he, id, _, hr, hid, rfl⟩, hC'⟩
  obtain ⟨v, h1, h2, h3⟩ := res_ok (P := P) (fn := fn) hC' hr
  rename_i o
  have hpost : a'.defers = [] ∧ ∃ v, (results fn a'.tmps).run P w' = Result.ok v w' ∧ ∃ v_1 Γ', Ending.returned v = .returned v_1 ∧ MV Γ' (ofH [(d', o)]) w' (vo d') v_1 ∧ HeapOk Γ' (ofH [(d', o)]) w' ∧ GOk ⟨w, prOf Γ (ofH [(d, o0)]) w, Γ.I, Γ.ρ, Γ.η⟩ Γ' (ofH [(d', o)]) w' ∧ Agree (fun id => ofH [(d', o)] id ≠ none ∧ ofH [(d, o0)] id = none) Γ Γ' := by
    let Γ2 : Ctx := ⟨Γ'.I, fun j => bif Nat.beq j d' then Γ'.ρ id else Γ.ρ j, fun j => bif Nat.beq j d' then Γ'.η id else Γ.η j⟩
    have er2 : Γ2.ρ d' = Γ'.ρ id := by show (bif Nat.beq d' d' then _ else _) = _; rw [Nat.beq_refl]; rfl
    have ee2 : Γ2.η d' = Γ'.η id := by show (bif Nat.beq d' d' then _ else _) = _; rw [Nat.beq_refl]; rfl
    have hfp2 : ∀ b, fp Γ2 d' o b → fp Γ' id o b := fun b hb => by
      unfold fp at hb ⊢
      rw [er2, ee2] at hb
      exact hb
    have hg' := hC'.g
    rw [hpr] at hg'
    refine ⟨hC'.defers, v, h1, v, Γ2, rfl, ?_, ⟨fun j o' hj => ?_, fun j o' b hj hb => ?_, fun j o1 j' o2 b hj hj' _ _ => ?_, hC'.heap.ilt, hC'.heap.glob⟩,
      ⟨hg'.os, hg'.tape, hg'.output, hg'.size, hg'.prlt, hg'.keep, hg'.sub, hg'.bak, fun j o' b hj hb => ?_⟩, fun j hj => ?_⟩
    · have h2' : v = Γ'.η id ∧ v.oneCell' = true := h2
      exact ⟨h2'.1.trans ee2.symm, h2'.2⟩
    · obtain ⟨rfl, rfl⟩ := ofH_one.1 hj
      exact grow_mo hg er2 ee2 rfl (hC'.heap.objs id _ hid)
    · obtain ⟨rfl, rfl⟩ := ofH_one.1 hj
      exact hC'.heap.lt id _ b hid (hfp2 b hb)
    · obtain ⟨rfl, _⟩ := ofH_one.1 hj
      obtain ⟨rfl, _⟩ := ofH_one.1 hj'
      rfl
    · obtain ⟨rfl, rfl⟩ := ofH_one.1 hj
      exact hg'.own id _ b hid (hfp2 b hb)
    · have hne : j ≠ d' := fun e => hj ⟨by subst e; rw [ofH_one.2 ⟨rfl, rfl⟩]; simp, by
        subst e
        cases q : ofH [(d, o0)] j with
        | none => rfl
        | some o' =>
          obtain ⟨q1, _⟩ := ofH_one.1 q
          rw [q1, Nat.beq_refl] at hd
          cases hd⟩
      refine ⟨?_, ?_⟩
      · show (bif Nat.beq j d' then _ else _) = _; rw [beq_false hne]; rfl
      · show (bif Nat.beq j d' then _ else _) = _; rw [beq_false hne]; rfl
  rcases he with rfl | rfl
  · exact hpost
  · exact hpost
def RetT (P : Program) (fn : Func) (rs : List TV) (o : AObj) (e : Exit) (s : AS) : Prop :=
  (e = .ret ∨ e = .normal) ∧ ∃ id o' r, evRes P fn s = some r ∧ r = .tup (.c (.own id) :: rs) ∧ s.obj id = some o' ∧ o' = o
theorem OwnT.of_body {P : Program} {f : FuncId} {fn : Func} {c : Code} {args : List TV} {rs : List TV} {o : AObj} {n : Nat} (hf : P.funcs[f]? = some fn) (hb : fn.body = some c) (hn : (fn.name == "runtime.NumGoroutine") = false)
    (hnt : fn.ntmps = n) (hle : Nat.ble args.length n = true) (hg : isGrow o = true) (hrs : tvsNo rs = true) (h : AMx P (RetT P fn rs o) [.code c] .normal (AS.lst n (argRegs 0 args) [])) (d : Nat) : Spec P f args H0 (.tup (.c (.own d) :: rs)) (ofH [(d, o)]) := by
  refine ⟨⟨fn, hf, by rw [hb]; rfl, hn⟩, fun Γ w cargs hh hm => ?_⟩
  refine calls_of_wp hf hb ?_
  have hC := body_start (P := P) (H := []) hnt hle hh hm
  refine wp_mono (h _ _ _ _ hC) ?_
  rintro e a' w' ⟨s', Γ', ⟨he, id, _, _, hr, rfl, hid, rfl⟩, hC'⟩
  obtain ⟨v, h1, h2, h3⟩ := res_ok (P := P) (fn := fn) hC' hr
  rename_i o
  have hpost : a'.defers = [] ∧ ∃ v, (results fn a'.tmps).run P w' = Result.ok v w' ∧ ∃ v_1 Γ', Ending.returned v = .returned v_1 ∧ MV Γ' (ofH [(d, o)]) w' (.tup (.c (.own d) :: rs)) v_1 ∧ HeapOk Γ' (ofH [(d, o)]) w' ∧ GOk ⟨w, prOf Γ (ofH []) w, Γ.I, Γ.ρ, Γ.η⟩ Γ' (ofH [(d, o)]) w' ∧ Agree (fun id => ofH [(d, o)] id ≠ none ∧ H0 id = none) Γ Γ' := by
    let Γ2 : Ctx := ⟨Γ'.I, fun j => bif Nat.beq j d then Γ'.ρ id else Γ.ρ j, fun j => bif Nat.beq j d then Γ'.η id else Γ.η j⟩
    have er : Γ2.ρ d = Γ'.ρ id := by show (bif Nat.beq d d then _ else _) = _; rw [Nat.beq_refl]; rfl
    have ee : Γ2.η d = Γ'.η id := by show (bif Nat.beq d d then _ else _) = _; rw [Nat.beq_refl]; rfl
    have hx : Ext (fun _ => True) Γ' w' Γ2 w' := ⟨fun b hb => hb, fun b hb => rfl, fun id h => absurd trivial h⟩
    have hfp : ∀ b, fp Γ2 d o b → fp Γ' id o b := fun b hb => by
      unfold fp at hb ⊢
      rw [er, ee] at hb
      exact hb
    refine ⟨hC'.defers, v, h1, v, Γ2, rfl, ?_, ⟨fun j o' hj => ?_, fun j o' b hj hb => ?_, fun j o1 j' o2 b hj hj' _ _ => ?_, hC'.heap.ilt, hC'.heap.glob⟩,
      ⟨hC'.g.os, hC'.g.tape, hC'.g.output, hC'.g.size, hC'.g.prlt, hC'.g.keep, hC'.g.sub, hC'.g.bak, fun j o' b hj hb => ?_⟩, fun j hj => ?_⟩
    · obtain ⟨vs, e1, e2⟩ := h2
      refine ⟨vs, e1, ?_⟩
      revert e2
      cases hvs : vs.toList with
      | nil => intro h; exact h.elim
      | cons x l =>
        intro h
        refine ⟨?_, MTs.ext hx (tvsNo_has rs hrs) h.2⟩
        have h2' : x = Γ'.η id ∧ x.oneCell' = true := h.1
        exact ⟨h2'.1.trans ee.symm, h2'.2⟩
    · obtain ⟨rfl, rfl⟩ := ofH_one.1 hj
      exact grow_mo hg er ee rfl (hC'.heap.objs id _ hid)
    · obtain ⟨rfl, rfl⟩ := ofH_one.1 hj
      exact hC'.heap.lt id _ b hid (hfp b hb)
    · obtain ⟨rfl, _⟩ := ofH_one.1 hj
      obtain ⟨rfl, _⟩ := ofH_one.1 hj'
      rfl
    · obtain ⟨rfl, rfl⟩ := ofH_one.1 hj
      exact hC'.g.own id _ b hid (hfp b hb)
    · have : j ≠ d := fun e => hj ⟨by subst e; rw [ofH_one.2 ⟨rfl, rfl⟩]; simp, rfl⟩
      refine ⟨?_, ?_⟩
      · show (bif Nat.beq j d then _ else _) = _; rw [beq_false this]; rfl
      · show (bif Nat.beq j d then _ else _) = _; rw [beq_false this]; rfl
  rcases he with rfl | rfl
  · exact hpost
  · exact hpost
end AL
namespace AL.Fnv
open Go AL
set_option linter.unusedVariables false
set_option linter.unusedSimpArgs false
theorem take_succ {α : Type} (d : α) (l : List α) (k : Nat) (h : k < l.length) : List.take (k + 1) l = List.take k l ++ [List.getD l k d] := by
  rw [List.take_succ_eq_append_getElem h]; simp [List.getD, List.getElem?_eq_getElem h]
def rowI (n : Int) (_ : Nat) : SC := i6 n
def rowS (s : Bytes) (_ : Nat) : SC := st s
abbrev slI (l : List Int) : SC := .sl 1 Int 0 rowI l
abbrev slS (l : List Bytes) : SC := .sl 1 Bytes [] rowS l
end AL.Fnv
namespace AL.Lib
open Go AL
set_option linter.unusedVariables false
set_option linter.unusedSimpArgs false
variable {α : Type}
theorem getD_lt (d : α) (l : List α) (k : Nat) (h : k < l.length) : List.getD l k d = l[k] := by simp [List.getD, List.getElem?_eq_getElem h]
theorem getD_mem (d : α) (l : List α) (k : Nat) (h : k < l.length) : List.getD l k d ∈ l := by rw [getD_lt d l k h]; exact List.getElem_mem h
theorem take_succ (d : α) (l : List α) (k : Nat) (h : k < l.length) : List.take (k + 1) l = List.take k l ++ [List.getD l k d] := Fnv.take_succ d l k h
theorem drop_cons (d : α) (l : List α) (k : Nat) (h : k < l.length) : List.drop k l = List.getD l k d :: List.drop (k + 1) l := by
  rw [List.drop_eq_getElem_cons h, getD_lt d l k h]
theorem take_cons (d : α) (l : List α) (k : Nat) (h : k < l.length) : l = List.take k l ++ List.getD l k d :: List.drop (k + 1) l := by
  rw [← drop_cons d l k h, List.take_append_drop]
def idxS (p : α → Bool) : List α → Int
  | [] => -1
  | x :: l => if p x then 0 else if idxS p l < 0 then -1 else idxS p l + 1
theorem idx_range (p : α → Bool) (l : List α) : -1 ≤ idxS p l ∧ idxS p l < l.length ∨ idxS p l = -1 := by
  induction l with
  | nil => right; rfl
  | cons x l ih =>
    unfold idxS
    split
    · left; simp
    · split
      · right; rfl
      · rw [List.length_cons]; left; omega
theorem idx_lt (p : α → Bool) (l : List α) : idxS p l < l.length := by
  rcases idx_range p l with h | h <;> omega
theorem idx_none {p : α → Bool} {l : List α} (h : ∀ x ∈ l, p x = false) : idxS p l = -1 := by
  induction l with
  | nil => rfl
  | cons x l ih =>
    unfold idxS
    rw [if_neg (by simp [h x]), ih fun y hy => h y (List.mem_cons_of_mem _ hy)]
    rfl
theorem idx_app {p : α → Bool} {x : α} {m : List α} : ∀ {l : List α}, (∀ y ∈ l, p y = false) → p x = true → idxS p (l ++ x :: m) = l.length
  | [], _, hx => by simp [idxS, hx]
  | y :: l, h, hx => by
    rw [List.cons_append]
    unfold idxS
    rw [if_neg (by simp [h y]), idx_app (fun z hz => h z (List.mem_cons_of_mem _ hz)) hx]
    rw [if_neg (by omega)]
    simp
theorem idx_hit {p : α → Bool} (d : α) (l : List α) (k : Nat) (hk : k < l.length) (h : ∀ x ∈ List.take k l, p x = false) (hx : p (List.getD l k d) = true) : idxS p l = k := by
  have := idx_app (m := List.drop (k + 1) l) h hx
  rw [← take_cons d l k hk, List.length_take] at this
  rw [this]; congr 1; omega
theorem idx_neg {p : α → Bool} {l : List α} (h : idxS p l < 0) : ∀ x ∈ l, p x = false := by
  induction l with
  | nil => intro x hx; cases hx
  | cons y l ih =>
    unfold idxS at h
    split at h
    · omega
    · rename_i hy
      split at h
      · intro x hx
        rcases List.mem_cons.1 hx with rfl | hx
        · simpa using hy
        · exact ih (by omega) x hx
      · omega
theorem idx_pos {p : α → Bool} (d : α) {l : List α} (h : 0 ≤ idxS p l) : p (List.getD l (idxS p l).toNat d) = true ∧ ∀ x ∈ List.take (idxS p l).toNat l, p x = false := by
  induction l with
  | nil => simp [idxS] at h
  | cons y l ih =>
    unfold idxS at h ⊢
    split
    · rename_i hy; exact ⟨by simpa using hy, fun x hx => by simp at hx⟩
    · rename_i hy
      rw [if_neg hy] at h
      split
      · rename_i hn; rw [if_pos hn] at h; omega
      · rename_i hn
        obtain ⟨h1, h2⟩ := ih (by omega)
        have e : (idxS p l + 1).toNat = (idxS p l).toNat + 1 := by omega
        rw [e]
        refine ⟨by simpa using h1, fun x hx => ?_⟩
        rw [List.take_succ_cons] at hx
        rcases List.mem_cons.1 hx with rfl | hx
        · simpa using hy
        · exact h2 x hx
theorem all_step {p : α → Bool} (d : α) (l : List α) (k : Nat) (hk : k < l.length) (h : ∀ x ∈ List.take k l, p x = false) (hx : p (List.getD l k d) = false) : ∀ x ∈ List.take (k + 1) l, p x = false := by
  intro x hm
  rw [take_succ d l k hk] at hm
  rcases List.mem_append.1 hm with h1 | h1
  · exact h x h1
  · rw [List.mem_singleton.1 h1]; exact hx
theorem same_step (d : α) (a b : List α) (k : Nat) (ha : k < a.length) (hb : k < b.length) (h : List.take k a = List.take k b) (hx : List.getD a k d = List.getD b k d) : List.take (k + 1) a = List.take (k + 1) b := by
  rw [take_succ d a k ha, take_succ d b k hb, h, hx]
theorem same_end (a b : List α) (k : Nat) (hl : a.length = b.length) (hk : a.length ≤ k) (h : List.take k a = List.take k b) : a = b := by
  rwa [List.take_of_length_le hk, List.take_of_length_le (by omega)] at h
end AL.Lib
namespace AL.Rune
open Go AL
set_option linter.unusedVariables false
set_option linter.unusedSimpArgs false
theorem get_ba (s : Bytes) (i : Nat) : (ba s).get! i = List.getD s i 0 := by
  show (s.toArray)[i]! = _
  rw [List.getD_eq_getElem?_getD]
  by_cases h : i < s.length
  · rw [getElem!_pos _ i (by simpa using h)]; simp [h]
  · rw [getElem!_neg _ i (by simpa using h)]; simp [h]; rfl
theorem dec_N (s : Bytes) (pos : Nat) : decS s pos = Go.Lib.decodeN (s.length - pos) (List.getD s pos 0).toNat (List.getD s (pos + 1) 0).toNat (List.getD s (pos + 2) 0).toNat (List.getD s (pos + 3) 0).toNat := by
  unfold decS
  rw [Go.Lib.decode_at, get_ba, get_ba, get_ba, get_ba, size_ba]
theorem getD_drop (s : Bytes) (i j : Nat) : List.getD (List.drop i s) j 0 = List.getD s (i + j) 0 := by
  rw [List.getD_eq_getElem?_getD, List.getD_eq_getElem?_getD, List.getElem?_drop]
theorem dec_drop (s : Bytes) (pos : Nat) : decS s pos = decS (List.drop pos s) 0 := by
  rw [dec_N, dec_N, getD_drop, getD_drop, getD_drop, getD_drop, List.length_drop]; simp
theorem dec_L (s : Bytes) : decS s 0 = Go.Lib.decodeL s := rfl
theorem dec_ok {s : Bytes} {pos : Nat} (h : pos < s.length) : 1 ≤ (decS s pos).2 ∧ pos + (decS s pos).2 ≤ s.length := by
  rw [dec_drop, dec_L]
  have h1 := Go.Lib.decodeL_width (List.drop pos s)
  have h2 := Go.Lib.decodeL_le (List.drop pos s) (by intro e; have := congrArg List.length e; simp at this; omega)
  rw [List.length_drop] at h2
  omega
theorem byte_lt (s : Bytes) (i : Nat) : (List.getD s i 0).toNat < 256 := UInt8.toNat_lt _
abbrev R := Nat × Bytes
def runesN : Nat → Bytes → List R
  | 0, _ => []
  | n + 1, s => if s = [] then [] else ((decS s 0).1, List.take (decS s 0).2 s) :: runesN n (List.drop (decS s 0).2 s)
def runesS (s : Bytes) : List R := runesN s.length s
theorem runesN_any : ∀ (n m : Nat) (s : Bytes), s.length ≤ n → s.length ≤ m → runesN n s = runesN m s
  | 0, 0, _, _, _ => rfl
  | 0, m + 1, s, h, _ => by
    have : s = [] := List.eq_nil_of_length_eq_zero (by omega)
    subst this; rfl
  | n + 1, 0, s, _, h => by
    have : s = [] := List.eq_nil_of_length_eq_zero (by omega)
    subst this; rfl
  | n + 1, m + 1, s, h1, h2 => by
    unfold runesN
    split
    · rfl
    · rename_i hs
      have hd := dec_ok (s := s) (pos := 0) (List.length_pos_iff.2 hs)
      rw [runesN_any n m _ (by rw [List.length_drop]; omega) (by rw [List.length_drop]; omega)]
theorem runes_cons {s : Bytes} (hs : s ≠ []) : runesS s = ((decS s 0).1, List.take (decS s 0).2 s) :: runesS (List.drop (decS s 0).2 s) := by
  have hl := List.length_pos_iff.2 hs
  have hd := dec_ok (s := s) (pos := 0) hl
  unfold runesS
  obtain ⟨n, hn⟩ : ∃ n, s.length = n + 1 := ⟨s.length - 1, by omega⟩
  rw [hn]
  conv => lhs; unfold runesN
  rw [if_neg hs, runesN_any n (List.drop (decS s 0).2 s).length _ (by rw [List.length_drop]; omega) (Nat.le_refl _)]
theorem runes_at {s : Bytes} {pos : Nat} (h : pos < s.length) : runesS (List.drop pos s) = ((decS s pos).1, List.take (decS s pos).2 (List.drop pos s)) :: runesS (List.drop (pos + (decS s pos).2) s) := by
  have hne : List.drop pos s ≠ [] := by intro e; have := congrArg List.length e; simp at this; omega
  rw [runes_cons hne, ← dec_drop, List.drop_drop]
theorem runes_end {s : Bytes} {pos : Nat} (h : s.length ≤ pos) : runesS (List.drop pos s) = [] := by rw [List.drop_of_length_le h]; rfl
theorem runes_ind {p : Bytes → Prop} (h0 : p []) (h1 : ∀ s, s ≠ [] → p (List.drop (decS s 0).2 s) → p s) : ∀ s, p s := by
  have : ∀ n (s : Bytes), s.length ≤ n → p s := by
    intro n
    induction n with
    | zero => intro s h; have : s = [] := List.eq_nil_of_length_eq_zero (by omega); subst this; exact h0
    | succ n ih =>
      intro s h
      by_cases hs : s = []
      · subst hs; exact h0
      · have hd := dec_ok (s := s) (pos := 0) (List.length_pos_iff.2 hs)
        exact h1 s hs (ih _ (by rw [List.length_drop]; omega))
  exact fun s => this s.length s (Nat.le_refl _)
theorem runes_len (s : Bytes) : (runesS s).length ≤ s.length := by
  refine runes_ind (p := fun s => (runesS s).length ≤ s.length) (Nat.le_refl _) (fun s hs ih => ?_) s
  rw [runes_cons hs, List.length_cons]
  have hd := dec_ok (s := s) (pos := 0) (List.length_pos_iff.2 hs)
  rw [List.length_drop] at ih
  omega
def tailS (s : Bytes) (i : Int) : Bool := decide (i < (s.length : Int)) && (decide (128 ≤ ((List.getD s i.toNat 0).toNat : Int)) && decide (((List.getD s i.toNat 0).toNat : Int) < 192))
def nextS (s : Bytes) (i : Nat) : Int × Int := if (decS s i).1 = 65533 ∧ (decS s i).2 = 1 then (-1, 1) else (((decS s i).1 : Int), ((decS s i).2 : Int))
theorem tail_iff {s : Bytes} {i : Int} : tailS s i = true ↔ i < (s.length : Int) ∧ 128 ≤ (List.getD s i.toNat 0).toNat ∧ (List.getD s i.toNat 0).toNat < 192 := by
  unfold tailS
  simp only [Bool.and_eq_true, decide_eq_true_eq]
  omega
theorem tail_neg {s : Bytes} {i : Int} : tailS s i = false ↔ ¬ (i < (s.length : Int) ∧ 128 ≤ (List.getD s i.toNat 0).toNat ∧ (List.getD s i.toNat 0).toNat < 192) := by
  rw [← tail_iff]; cases tailS s i <;> simp
theorem next_1 {s : Bytes} {i : Nat} (h : (List.getD s i 0).toNat < 128) : nextS s i = (((List.getD s i 0).toNat : Int), 1) := by
  unfold nextS
  rw [dec_N]
  have : Go.Lib.decodeN (s.length - i) (List.getD s i 0).toNat (List.getD s (i + 1) 0).toNat (List.getD s (i + 2) 0).toNat (List.getD s (i + 3) 0).toNat = ((List.getD s i 0).toNat, 1) := by
    unfold Go.Lib.decodeN; rw [if_pos h]
  rw [this, if_neg (by simp only []; omega)]; rfl
theorem next_2 {s : Bytes} {i : Nat} {b0 b1 : Nat} (e0 : (List.getD s i 0).toNat = b0) (e1 : (List.getD s (i + 1) 0).toNat = b1) (h : 192 ≤ b0 ∧ b0 < 224) (h1 : i + 1 < s.length ∧ 128 ≤ b1 ∧ b1 < 192) (hc : 128 ≤ 64 * (b0 - 192) + (b1 - 128)) :
    nextS s i = (((64 * (b0 - 192) + (b1 - 128) : Nat) : Int), 2) := by
  unfold nextS
  rw [dec_N, e0, e1]
  have : Go.Lib.decodeN (s.length - i) b0 b1 (List.getD s (i + 2) 0).toNat (List.getD s (i + 3) 0).toNat = (64 * (b0 - 192) + (b1 - 128), 2) := by
    unfold Go.Lib.decodeN; rw [if_neg (by omega), if_pos (by omega), if_pos (by omega)]; exact Prod.ext (by simp only []; omega) rfl
  rw [this, if_neg (by simp only []; omega)]; rfl
theorem next_3 {s : Bytes} {i : Nat} {b0 b1 b2 : Nat} (e0 : (List.getD s i 0).toNat = b0) (e1 : (List.getD s (i + 1) 0).toNat = b1) (e2 : (List.getD s (i + 2) 0).toNat = b2) (h : 224 ≤ b0 ∧ b0 < 240) (h1 : i + 2 < s.length ∧ 128 ≤ b1 ∧ b1 < 192) (h2 : 128 ≤ b2 ∧ b2 < 192)
    (hc : 2048 ≤ 4096 * (b0 - 224) + 64 * (b1 - 128) + (b2 - 128)) (hc2 : 4096 * (b0 - 224) + 64 * (b1 - 128) + (b2 - 128) < 55296 ∨ 57343 < 4096 * (b0 - 224) + 64 * (b1 - 128) + (b2 - 128)) :
    nextS s i = (((4096 * (b0 - 224) + 64 * (b1 - 128) + (b2 - 128) : Nat) : Int), 3) := by
  unfold nextS
  rw [dec_N, e0, e1, e2]
  have : Go.Lib.decodeN (s.length - i) b0 b1 b2 (List.getD s (i + 3) 0).toNat = (4096 * (b0 - 224) + 64 * (b1 - 128) + (b2 - 128), 3) := by
    unfold Go.Lib.decodeN; rw [if_neg (by omega), if_neg (by omega), if_pos (by omega), if_pos (by omega)]; exact Prod.ext (by simp only []; omega) rfl
  rw [this, if_neg (by simp only []; omega)]; rfl
theorem next_4 {s : Bytes} {i : Nat} {b0 b1 b2 b3 : Nat} (e0 : (List.getD s i 0).toNat = b0) (e1 : (List.getD s (i + 1) 0).toNat = b1) (e2 : (List.getD s (i + 2) 0).toNat = b2) (e3 : (List.getD s (i + 3) 0).toNat = b3) (h : 240 ≤ b0 ∧ b0 < 248) (h1 : i + 3 < s.length ∧ 128 ≤ b1 ∧ b1 < 192) (h2 : 128 ≤ b2 ∧ b2 < 192) (h3 : 128 ≤ b3 ∧ b3 < 192)
    (hc : 65536 ≤ 262144 * (b0 - 240) + 4096 * (b1 - 128) + 64 * (b2 - 128) + (b3 - 128)) (hc2 : 262144 * (b0 - 240) + 4096 * (b1 - 128) + 64 * (b2 - 128) + (b3 - 128) ≤ 1114111) :
    nextS s i = (((262144 * (b0 - 240) + 4096 * (b1 - 128) + 64 * (b2 - 128) + (b3 - 128) : Nat) : Int), 4) := by
  unfold nextS
  rw [dec_N, e0, e1, e2, e3]
  have : Go.Lib.decodeN (s.length - i) b0 b1 b2 b3 = (262144 * (b0 - 240) + 4096 * (b1 - 128) + 64 * (b2 - 128) + (b3 - 128), 4) := by
    unfold Go.Lib.decodeN; rw [if_neg (by omega), if_neg (by omega), if_neg (by omega), if_pos (by omega), if_pos (by omega)]; exact Prod.ext (by simp only []; omega) rfl
  rw [this, if_neg (by simp only []; omega)]; rfl
theorem next_bad {s : Bytes} {i : Nat} {b0 b1 b2 b3 : Nat} (hi : i < s.length) (e0 : (List.getD s i 0).toNat = b0) (e1 : (List.getD s (i + 1) 0).toNat = b1) (e2 : (List.getD s (i + 2) 0).toNat = b2) (e3 : (List.getD s (i + 3) 0).toNat = b3) (l0 : b0 < 256) (l1 : b1 < 256) (l2 : b2 < 256) (l3 : b3 < 256)
    (h1 : ¬ b0 < 128) (h2 : ¬ ((192 ≤ b0 ∧ b0 < 224) ∧ (i + 1 < s.length ∧ 128 ≤ b1 ∧ b1 < 192) ∧ 128 ≤ 64 * (b0 - 192) + (b1 - 128)))
    (h3 : ¬ ((224 ≤ b0 ∧ b0 < 240) ∧ (i + 1 < s.length ∧ 128 ≤ b1 ∧ b1 < 192) ∧ (i + 2 < s.length ∧ 128 ≤ b2 ∧ b2 < 192) ∧ 2048 ≤ 4096 * (b0 - 224) + 64 * (b1 - 128) + (b2 - 128) ∧ (4096 * (b0 - 224) + 64 * (b1 - 128) + (b2 - 128) < 55296 ∨ 57343 < 4096 * (b0 - 224) + 64 * (b1 - 128) + (b2 - 128))))
    (h4 : ¬ ((240 ≤ b0 ∧ b0 < 248) ∧ (i + 1 < s.length ∧ 128 ≤ b1 ∧ b1 < 192) ∧ (i + 2 < s.length ∧ 128 ≤ b2 ∧ b2 < 192) ∧ (i + 3 < s.length ∧ 128 ≤ b3 ∧ b3 < 192) ∧ 65536 ≤ 262144 * (b0 - 240) + 4096 * (b1 - 128) + 64 * (b2 - 128) + (b3 - 128) ∧ 262144 * (b0 - 240) + 4096 * (b1 - 128) + 64 * (b2 - 128) + (b3 - 128) ≤ 1114111)) :
    nextS s i = (-1, 1) := by
  unfold nextS
  rw [dec_N, e0, e1, e2, e3]
  have : Go.Lib.decodeN (s.length - i) b0 b1 b2 b3 = (65533, 1) := by
    rcases Go.Lib.decodeN_shape (s.length - i) b0 b1 b2 b3 with ⟨c, e⟩ | ⟨c1, c2, c3, cv, e⟩ | ⟨c1, c2, c3, c4, cv, cs, e⟩ | ⟨c1, c2, c3, c4, c5, cv, cw, e⟩ | e
    · exact absurd c h1
    · exfalso; apply h2; omega
    · exfalso; apply h3; omega
    · exfalso; apply h4; omega
    · exact e
  rw [this, if_pos ⟨rfl, rfl⟩]
theorem next_size {s : Bytes} {i : Nat} (h : i < s.length) : (nextS s i).2 = ((decS s i).2 : Int) := by
  unfold nextS
  split
  · rename_i q; rw [q.2]; rfl
  · rfl
def piecesS : Bytes → List Bytes
  | [] => [[]]
  | b :: s => if b = 47 then [] :: piecesS s else match piecesS s with
    | [] => [[b]]
    | p :: ps => (b :: p) :: ps
def joinS : List Bytes → Bytes
  | [] => []
  | [p] => p
  | p :: q :: l => p ++ 47 :: joinS (q :: l)
theorem pieces_ne (s : Bytes) : piecesS s ≠ [] := by
  cases s with
  | nil => simp [piecesS]
  | cons b s =>
    unfold piecesS
    split
    · simp
    · split <;> simp
theorem pieces_none : ∀ {a : Bytes}, (47 : UInt8) ∉ a → piecesS a = [a]
  | [], _ => rfl
  | b :: a, h => by
    simp only [List.mem_cons, not_or] at h
    unfold piecesS
    rw [if_neg (fun e => h.1 e.symm), pieces_none h.2]
theorem pieces_app : ∀ {a : Bytes} (s : Bytes), (47 : UInt8) ∉ a → piecesS (a ++ 47 :: s) = a :: piecesS s
  | [], s, _ => by simp [piecesS]
  | b :: a, s, h => by
    simp only [List.mem_cons, not_or] at h
    rw [List.cons_append, piecesS, if_neg (fun e => h.1 e.symm), pieces_app s h.2]
theorem pieces_len (s : Bytes) : (piecesS s).length = s.count 47 + 1 := by
  induction s with
  | nil => rfl
  | cons b s ih =>
    unfold piecesS
    by_cases e : b = 47
    · subst e; rw [if_pos rfl, List.length_cons, ih, List.count_cons_self]
    · rw [if_neg e, List.count_cons_of_ne e]
      cases hp : piecesS s with
      | nil => exact absurd hp (pieces_ne s)
      | cons p ps => rw [hp] at ih; simpa using ih
theorem join_pieces (s : Bytes) : joinS (piecesS s) = s := by
  induction s with
  | nil => rfl
  | cons b s ih =>
    unfold piecesS
    split
    · rename_i e
      subst e
      cases hp : piecesS s with
      | nil => exact absurd hp (pieces_ne s)
      | cons p ps => rw [hp] at ih; show [] ++ 47 :: joinS (p :: ps) = _; rw [ih]; rfl
    · split
      · rename_i hp; exact absurd hp (pieces_ne s)
      · rename_i p ps hp
        rw [hp] at ih
        cases ps with
        | nil => show b :: p = _; rw [show p = s from ih]
        | cons q ps => show (b :: p) ++ 47 :: joinS (q :: ps) = _; rw [← ih]; rfl
theorem pieces_one {s : Bytes} : (piecesS s).length = 1 ↔ (47 : UInt8) ∉ s := by
  rw [pieces_len, ← List.count_eq_zero]; omega
theorem index_none {s : Bytes} (h : Go.Lib.indexByte s 47 < 0) : (47 : UInt8) ∉ s := by
  induction s with
  | nil => simp
  | cons b s ih =>
    unfold Go.Lib.indexByte at h
    split at h
    · omega
    · rename_i hb
      have hg := Go.Lib.indexByte_ge s 47
      simp only [List.mem_cons, not_or]
      refine ⟨fun e => hb (by simp [e]), ih ?_⟩
      split at h
      · rename_i h1; simp only [beq_iff_eq] at h1; omega
      · omega
theorem index_some {s : Bytes} (h : 0 ≤ Go.Lib.indexByte s 47) : (Go.Lib.indexByte s 47).toNat < s.length ∧ (47 : UInt8) ∉ List.take (Go.Lib.indexByte s 47).toNat s ∧ s = List.take (Go.Lib.indexByte s 47).toNat s ++ 47 :: List.drop ((Go.Lib.indexByte s 47).toNat + 1) s := by
  induction s with
  | nil => simp [Go.Lib.indexByte] at h
  | cons b s ih =>
    unfold Go.Lib.indexByte at h ⊢
    by_cases hb : b = 47
    · subst hb; simp
    · have e1 : (b == (47 : UInt8)) = false := by simpa using hb
      rw [e1] at h ⊢
      simp only [Bool.false_eq_true, if_false] at h ⊢
      have hg := Go.Lib.indexByte_ge s 47
      by_cases h1 : Go.Lib.indexByte s 47 = -1
      · rw [h1] at h; simp at h
      · rw [if_neg (by simpa using h1)] at h ⊢
        obtain ⟨i1, i2, i3⟩ := ih (by omega)
        have e : (Go.Lib.indexByte s 47 + 1).toNat = (Go.Lib.indexByte s 47).toNat + 1 := by omega
        rw [e]
        refine ⟨by simp only [List.length_cons]; omega, ?_, ?_⟩
        · simp only [List.take_succ_cons, List.mem_cons, not_or]; exact ⟨fun q => hb q.symm, i2⟩
        · simp only [List.take_succ_cons, List.drop_succ_cons, List.cons_append]
          rw [← i3]
end AL.Rune
namespace AL.Route
open Go AL AL.Rune
set_option linter.unusedVariables false
set_option linter.unusedSimpArgs false
def runeOk (c : Int) : Bool :=
  (decide (97 ≤ c) && decide (c ≤ 122)) || (decide (65 ≤ c) && decide (c ≤ 90)) || (decide (48 ≤ c) && decide (c ≤ 57)) || decide (c = 45) || decide (c = 46) || decide (c = 95) || (decide (192 ≤ c) && decide (c ≤ 55295))
def okR (x : R) : Bool := runeOk (x.1 : Int)
def partS (s : Bytes) : Int :=
  if s = [] ∨ s = [46] ∨ s = [46, 46] ∨ s = [45] then 4 else if (runesS s).all okR = false then 4 else if 12 < (runesS s).length then 5 else 0
theorem part_1 {s : Bytes} (h : s = [] ∨ s = [46] ∨ s = [46, 46] ∨ s = [45]) : partS s = 4 := by unfold partS; rw [if_pos h]
theorem part_2 {s : Bytes} (h : (runesS s).all okR = false) : partS s = 4 := by unfold partS; split; rfl; rfl
theorem part_3 {s : Bytes} (h : ¬ (s = [] ∨ s = [46] ∨ s = [46, 46] ∨ s = [45])) (h2 : (runesS s).all okR = true) (h3 : 12 < (runesS s).length) : partS s = 5 := by
  unfold partS; rw [if_neg h, if_neg (by rw [h2]; decide), if_pos h3]
theorem part_4 {s : Bytes} (h : ¬ (s = [] ∨ s = [46] ∨ s = [46, 46] ∨ s = [45])) (h2 : (runesS s).all okR = true) (h3 : ¬ 12 < (runesS s).length) : partS s = 0 := by
  unfold partS; rw [if_neg h, if_neg (by rw [h2]; decide), if_neg h3]
def LeftAll (s : Bytes) (pos : Nat) : Prop := (runesS s).all okR = (runesS (List.drop pos s)).all okR
theorem left_0 (s : Bytes) : LeftAll s 0 := by unfold LeftAll; rw [List.drop_zero]
theorem left_ok {s : Bytes} {pos : Nat} (h : pos < s.length) (hA : LeftAll s pos) (hc : runeOk ((decS s pos).1 : Int) = true) : LeftAll s (pos + (decS s pos).2) := by
  unfold LeftAll at *
  rw [hA, runes_at h, List.all_cons]
  show (runeOk ((decS s pos).1 : Int) && _) = _
  rw [hc, Bool.true_and]
theorem left_bad {s : Bytes} {pos : Nat} (h : pos < s.length) (hA : LeftAll s pos) (hc : runeOk ((decS s pos).1 : Int) = false) : (runesS s).all okR = false := by
  unfold LeftAll at hA
  rw [hA, runes_at h, List.all_cons]
  show (runeOk ((decS s pos).1 : Int) && _) = _
  rw [hc, Bool.false_and]
theorem left_end {s : Bytes} {pos : Nat} (h : s.length ≤ pos) (hA : LeftAll s pos) : (runesS s).all okR = true := by
  unfold LeftAll at hA
  rw [hA, runes_end h]; rfl
def LeftN (s : Bytes) (pos n : Nat) : Prop := (runesS s).length = n + (runesS (List.drop pos s)).length
theorem leftN_0 (s : Bytes) : LeftN s 0 0 := by unfold LeftN; rw [List.drop_zero]; omega
theorem leftN_step {s : Bytes} {pos n : Nat} (h : pos < s.length) (hN : LeftN s pos n) : LeftN s (pos + (decS s pos).2) (n + 1) := by
  unfold LeftN at *
  rw [hN, runes_at h, List.length_cons]; omega
theorem leftN_end {s : Bytes} {pos n : Nat} (h : s.length ≤ pos) (hN : LeftN s pos n) : (runesS s).length = n := by
  unfold LeftN at hN
  rw [hN, runes_end h]; rfl
theorem leftN_le {s : Bytes} {pos n : Nat} (hN : LeftN s pos n) : n ≤ s.length := by
  have := runes_len s
  unfold LeftN at hN; omega
theorem ok_next {s : Bytes} {pos : Nat} : runeOk (nextS s pos).1 = runeOk ((decS s pos).1 : Int) := by
  unfold nextS
  split
  · rename_i h; rw [h.1]; rfl
  · rfl
def gradedS (l : List Bytes) : Int :=
  if l.any (fun p => decide (partS p = 4)) = true then 4 else if l.any (fun p => decide (partS p = 5)) = true then 5 else if 6 < l.length then 24 else 0
def checkS (s : Bytes) : Int := if 64 < s.length then 5 else gradedS (piecesS s)
def partsS (s : Bytes) : List Bytes × Int := if checkS s = 0 then (piecesS s, 0) else ([], checkS s)
theorem graded_hit {l : List Bytes} {k : Nat} (hk : k < l.length) (h : partS (List.getD l k []) = 4) : gradedS l = 4 := by
  unfold gradedS
  rw [if_pos (List.any_eq_true.2 ⟨_, AL.Lib.getD_mem [] l k hk, decide_eq_true h⟩)]
def worstS (l : List Bytes) : Int := if l.any (fun p => decide (partS p = 5)) = true then 5 else 0
theorem worst_step (l : List Bytes) (k : Nat) (hk : k < l.length) : worstS (List.take (k + 1) l) = if partS (List.getD l k []) = 5 then 5 else worstS (List.take k l) := by
  unfold worstS
  rw [AL.Lib.take_succ [] l k hk, List.any_append]
  by_cases h : partS (List.getD l k []) = 5
  · rw [if_pos h, if_pos (by simp only [List.any_cons, List.any_nil, h]; simp)]
  · rw [if_neg h]; simp only [List.any_cons, List.any_nil, decide_eq_false h, Bool.or_false]
theorem graded_end {l : List Bytes} (h : ∀ k, k < l.length → partS (List.getD l k []) ≠ 4) : gradedS l = if worstS l = 0 then (if 6 < l.length then 24 else 0) else worstS l := by
  have h0 : l.any (fun p => decide (partS p = 4)) = false := by
    rw [List.any_eq_false]
    intro p hp
    obtain ⟨i, hi, rfl⟩ := List.mem_iff_getElem.1 hp
    have := h i hi
    rw [AL.Lib.getD_lt [] l i hi] at this
    simpa using this
  unfold gradedS worstS
  rw [if_neg (by rw [h0]; decide)]
  split
  · rfl
  · rfl
def PInv (s : Bytes) (i f : Nat) (o : List Bytes) : Prop :=
  (i ≤ s.length ∧ f ≤ i ∧ (47 : UInt8) ∉ List.drop f (List.take i s) ∧ piecesS s = o ++ piecesS (List.drop f s)) ∨ (i = s.length + 1 ∧ f = i ∧ piecesS s = o)
theorem pinv_0 (s : Bytes) : PInv s 0 0 [] := .inl ⟨Nat.zero_le _, Nat.le_refl _, by simp, by simp⟩
theorem pinv_len {s : Bytes} {i f : Nat} {o : List Bytes} (h : PInv s i f o) : o.length ≤ s.length + 1 ∧ f ≤ i ∧ i ≤ s.length + 1 := by
  have h1 := pieces_len s
  have h2 : s.count 47 ≤ s.length := List.count_le_length
  rcases h with ⟨a, b, c, d⟩ | ⟨a, b, d⟩
  · have := congrArg List.length d
    rw [List.length_append] at this; omega
  · have := congrArg List.length d; omega
theorem seg_split {s : Bytes} {i f : Nat} (hi : i < s.length) (hf : f ≤ i) : List.drop f s = List.drop f (List.take i s) ++ List.getD s i 0 :: List.drop (i + 1) s := by
  conv => lhs; rw [show s = List.take i s ++ List.drop i s from (List.take_append_drop i s).symm]
  rw [List.drop_append_of_le_length (by rw [List.length_take]; omega), AL.Lib.drop_cons 0 s i hi]
theorem pinv_hit {s : Bytes} {i f : Nat} {o : List Bytes} (h : PInv s i f o) (hi : i ≤ s.length) (hc : i = s.length ∨ (List.getD s i 0).toNat = 47) : PInv s (i + 1) (i + 1) (o ++ [List.drop f (List.take i s)]) := by
  rcases h with ⟨a, b, c, d⟩ | ⟨a, b, d⟩
  · by_cases e : i = s.length
    · right
      refine ⟨by omega, rfl, ?_⟩
      rw [d]
      have : List.drop f (List.take i s) = List.drop f s := by rw [List.take_of_length_le (by omega)]
      rw [this] at c ⊢
      rw [pieces_none c]
    · left
      have hl : i < s.length := by omega
      have h47 : List.getD s i 0 = 47 := UInt8.toNat_inj.1 (by simpa using hc.resolve_left e)
      refine ⟨by omega, Nat.le_refl _, by rw [List.drop_of_length_le (by rw [List.length_take]; omega)]; simp, ?_⟩
      rw [d, seg_split hl b, h47, pieces_app _ c, List.append_assoc]; rfl
  · omega
theorem pinv_not {s : Bytes} {i f : Nat} {o : List Bytes} (h : PInv s i f o) (hi : i ≤ s.length) (hc : ¬ (i = s.length ∨ (List.getD s i 0).toNat = 47)) : PInv s (i + 1) f o := by
  rcases h with ⟨a, b, c, d⟩ | ⟨a, b, d⟩
  · have hl : i < s.length := by omega
    refine .inl ⟨by omega, by omega, ?_, d⟩
    rw [AL.Lib.take_succ 0 s i hl, List.drop_append_of_le_length (by rw [List.length_take]; omega), List.mem_append, not_or]
    refine ⟨c, fun q => hc (.inr ?_)⟩
    rw [← List.mem_singleton.1 q]; rfl
  · omega
theorem pinv_end {s : Bytes} {i f : Nat} {o : List Bytes} (h : PInv s i f o) (hi : s.length < i) : piecesS s = o := by
  rcases h with ⟨a, b, c, d⟩ | ⟨a, b, d⟩
  · omega
  · exact d
theorem split_n (s : Bytes) : (min (((s.count 47 : Nat) : Int) + 1) ((List.length s : Int) + 1)).toNat = (piecesS s).length := by
  have h1 := pieces_len s
  have h2 : s.count 47 ≤ s.length := List.count_le_length
  omega
theorem split_more {c : Bytes} (h : 0 ≤ Go.Lib.indexByte c 47) : piecesS c = List.take (Go.Lib.indexByte c 47).toNat c :: piecesS (List.drop ((Go.Lib.indexByte c 47).toNat + 1) c) := by
  obtain ⟨h1, h2, h3⟩ := index_some h
  conv => lhs; rw [h3]
  rw [pieces_app _ h2]
theorem set_rep (o : List Bytes) (k : Nat) (x : Bytes) : List.set (o ++ List.replicate (k + 1) []) o.length x = (o ++ [x]) ++ List.replicate k [] := by
  rw [List.set_append_right _ _ (Nat.le_refl _), Nat.sub_self, List.replicate_succ, List.set_cons_zero, List.append_assoc]; rfl
theorem split_step {o : List Bytes} {c : Bytes} (h : 0 ≤ Go.Lib.indexByte c 47) (x : Bytes) :
    List.set (o ++ List.replicate (piecesS c).length []) o.length x = (o ++ [x]) ++ List.replicate (piecesS (List.drop ((Go.Lib.indexByte c 47).toNat + 1) c)).length [] := by
  rw [split_more h, List.length_cons, set_rep]
theorem split_inv {s c : Bytes} {o : List Bytes} (hP : piecesS s = o ++ piecesS c) (h : 0 ≤ Go.Lib.indexByte c 47) : piecesS s = (o ++ [List.take (Go.Lib.indexByte c 47).toNat c]) ++ piecesS (List.drop ((Go.Lib.indexByte c 47).toNat + 1) c) := by
  rw [hP, split_more h, List.append_assoc]; rfl
theorem split_last {s c : Bytes} {o : List Bytes} (hP : piecesS s = o ++ piecesS c) (h : ¬ (o.length : Int) < ((piecesS s).length : Int) - 1) : (47 : UInt8) ∉ c := by
  have := congrArg List.length hP
  rw [List.length_append] at this
  have h1 := pieces_len c
  exact pieces_one.1 (by omega)
theorem split_end {s c : Bytes} {o : List Bytes} (hP : piecesS s = o ++ piecesS c) (hc : (47 : UInt8) ∉ c) : List.take (o.length + 1) (List.set (o ++ List.replicate (piecesS c).length []) o.length c) = piecesS s := by
  rw [hP, pieces_none hc]
  show List.take (o.length + 1) (List.set (o ++ List.replicate (0 + 1) []) o.length c) = _
  rw [set_rep]
  rw [List.replicate_zero, List.append_nil, List.take_of_length_le (by simp)]
theorem split_le {s c : Bytes} {o : List Bytes} (hP : piecesS s = o ++ piecesS c) : o.length + (piecesS c).length = (piecesS s).length ∧ (piecesS s).length ≤ s.length + 1 ∧ 1 ≤ (piecesS c).length := by
  have h0 := congrArg List.length hP
  have h1 := pieces_len s
  have h2 : s.count 47 ≤ s.length := List.count_le_length
  have h3 := pieces_len c
  rw [List.length_append] at h0
  omega
def longS (l : List Bytes) : Bool := l.any fun p => decide (partS p = 5)
theorem long_step (l : List Bytes) (k : Nat) (hk : k < l.length) : (longS (List.take k l) || decide (partS (List.getD l k []) = 5)) = longS (List.take (k + 1) l) := by
  rw [AL.Lib.take_succ [] l k hk]; unfold longS; simp
theorem worst_long (l : List Bytes) : worstS l = if longS l = true then 5 else 0 := rfl
theorem graded_5 {l : List Bytes} (h : ∀ k, k < l.length → partS (List.getD l k []) ≠ 4) (hl : longS l = true) : gradedS l = 5 := by
  rw [graded_end h, worst_long, if_pos hl, if_neg (by decide)]
theorem graded_24 {l : List Bytes} (h : ∀ k, k < l.length → partS (List.getD l k []) ≠ 4) (hl : longS l = false) (h6 : 6 < l.length) : gradedS l = 24 := by
  have hw : worstS l = 0 := by rw [worst_long, hl]; rfl
  rw [graded_end h, hw, if_pos rfl, if_pos h6]
theorem graded_0 {l : List Bytes} (h : ∀ k, k < l.length → partS (List.getD l k []) ≠ 4) (hl : longS l = false) (h6 : ¬ 6 < l.length) : gradedS l = 0 := by
  have hw : worstS l = 0 := by rw [worst_long, hl]; rfl
  rw [graded_end h, hw, if_pos rfl, if_neg h6]
theorem parts_2 (s : Bytes) : (partsS s).2 = checkS s := by
  unfold partsS
  split
  · rename_i h; exact h.symm
  · rfl
theorem check_big {s : Bytes} (h : 64 < s.length) : checkS s = 5 := by unfold checkS; rw [if_pos h]
theorem check_small {s : Bytes} (h : ¬ 64 < s.length) : checkS s = gradedS (piecesS s) := by unfold checkS; rw [if_neg h]
theorem parts_ok {s : Bytes} (h : checkS s = 0) : partsS s = (piecesS s, 0) := by unfold partsS; rw [if_pos h]
theorem parts_no {s : Bytes} (h : checkS s ≠ 0) : partsS s = ([], checkS s) := by unfold partsS; rw [if_neg h]
theorem piece_le {s p : Bytes} (h : p ∈ piecesS s) : p.length ≤ s.length := by
  have hj := join_pieces s
  have : ∀ (l : List Bytes), p ∈ l → p.length ≤ (joinS l).length := by
    intro l
    induction l with
    | nil => intro h; cases h
    | cons q l ih =>
      intro h
      cases l with
      | nil => rw [List.mem_singleton.1 h]; exact Nat.le_refl _
      | cons r l =>
        show p.length ≤ (q ++ 47 :: joinS (r :: l)).length
        rw [List.length_append, List.length_cons]
        rcases List.mem_cons.1 h with rfl | h
        · omega
        · have := ih h; omega
  have h2 := this _ h
  rw [hj] at h2; exact h2
end AL.Route
namespace AL.Rows
open Go AL
set_option linter.unusedVariables false
set_option linter.unusedSimpArgs false
def nameB (b : UInt8) : Bool := (decide (97 ≤ b.toNat) && decide (b.toNat ≤ 122)) || (decide (48 ≤ b.toNat) && decide (b.toNat ≤ 57))
theorem nameB_iff {b : UInt8} : nameB b = true ↔ (97 ≤ b.toNat ∧ b.toNat ≤ 122) ∨ (48 ≤ b.toNat ∧ b.toNat ≤ 57) := by
  unfold nameB
  simp only [Bool.or_eq_true, Bool.and_eq_true, decide_eq_true_eq]
def namedS (s : Bytes) : Bool := decide (1 ≤ s.length) && (decide (s.length ≤ 8) && s.all nameB)
theorem named_size {s : Bytes} (h : s = [] ∨ 8 < s.length) : namedS s = false := by
  unfold namedS
  rcases h with h | h
  · subst h; rfl
  · rw [decide_eq_false (p := s.length ≤ 8) (by omega)]; simp
def LeftNm (s : Bytes) (pos : Nat) : Prop := s.all nameB = (List.drop pos s).all nameB
theorem nm_0 (s : Bytes) : LeftNm s 0 := by unfold LeftNm; rw [List.drop_zero]
theorem nm_byte {s : Bytes} {pos : Nat} (h : pos < s.length) (hN : LeftNm s pos) (hb : nameB (List.getD s pos 0) = true) : LeftNm s (pos + 1) := by
  unfold LeftNm at *
  rw [hN, Lib.drop_cons 0 s pos h, List.all_cons, hb, Bool.true_and]
theorem nm_not {s : Bytes} {pos : Nat} (h : pos < s.length) (hb : nameB (List.getD s pos 0) = false) : namedS s = false := by
  unfold namedS
  have : s.all nameB = false := by
    rw [List.all_eq_false]
    exact ⟨_, Lib.getD_mem 0 s pos h, by rw [hb]; decide⟩
  rw [this]; simp
theorem nm_end {s : Bytes} {pos : Nat} (h : s.length ≤ pos) (hN : LeftNm s pos) (h1 : ¬ s = []) (h2 : ¬ 8 < s.length) : namedS s = true := by
  unfold LeftNm at hN
  rw [List.drop_of_length_le h] at hN
  unfold namedS
  have hl := List.length_pos_iff.2 h1
  rw [hN, decide_eq_true (by omega), decide_eq_true (by omega)]
  rfl
theorem dec_low {s : Bytes} {pos : Nat} (h : pos < s.length) (hb : (List.getD s pos 0).toNat < 128) : decS s pos = ((List.getD s pos 0).toNat, 1) := by
  rw [Rune.dec_N]
  unfold Go.Lib.decodeN
  rw [if_pos hb]
theorem dec_high {s : Bytes} {pos : Nat} (h : pos < s.length) (hb : ¬ (List.getD s pos 0).toNat < 128) : 128 ≤ (decS s pos).1 := by
  rw [Rune.dec_N]
  have q0 := Rune.byte_lt s pos
  unfold Go.Lib.decodeN
  rw [if_neg hb]
  repeat' split
  all_goals (simp only []; omega)
theorem nm_step {s : Bytes} {pos : Nat} (h : pos < s.length) (hN : LeftNm s pos) (hc : ¬ ((((decS s pos).1 : Int) < 97 ∨ 122 < ((decS s pos).1 : Int)) ∧ (((decS s pos).1 : Int) < 48 ∨ 57 < ((decS s pos).1 : Int)))) : LeftNm s (pos + (decS s pos).2) := by
  by_cases hb : (List.getD s pos 0).toNat < 128
  · rw [dec_low h hb] at hc ⊢
    refine nm_byte h hN (nameB_iff.2 ?_)
    simp only [] at hc
    omega
  · have := dec_high h hb
    omega
theorem nm_bad {s : Bytes} {pos : Nat} (h : pos < s.length) (hc : (((decS s pos).1 : Int) < 97 ∨ 122 < ((decS s pos).1 : Int)) ∧ (((decS s pos).1 : Int) < 48 ∨ 57 < ((decS s pos).1 : Int))) : namedS s = false := by
  refine nm_not h ?_
  rw [Bool.eq_false_iff]
  intro hb
  have hb := nameB_iff.1 hb
  rw [dec_low h (by omega)] at hc
  simp only [] at hc
  omega
abbrev KeyV := Int × Bytes × Int
def MayK (k : KeyV) : Prop :=
  (k.1 = 1 ∧ Route.checkS k.2.1 = 0 ∧ k.2.2 = 0) ∨ (k.1 = 2 ∧ Route.checkS k.2.1 = 0 ∧ 1 ≤ k.2.2 ∧ k.2.2 ≤ 30) ∨ (k.1 = 3 ∧ namedS k.2.1 = true ∧ k.2.2 = 0) ∨ ((k.1 = 4 ∨ k.1 = 5) ∧ k.2.1 = [] ∧ k.2.2 = 0)
instance (k : KeyV) : Decidable (MayK k) := inferInstanceAs (Decidable (_ ∨ _))
def checkK (k : KeyV) : Int := if k.1 < 1 ∨ 5 < k.1 then 22 else if MayK k then 0 else 2
theorem check_ok {k : KeyV} (h : MayK k) : checkK k = 0 := by
  unfold checkK
  rw [if_neg (by unfold MayK at h; omega), if_pos h]
theorem check_may {k : KeyV} : checkK k = 0 ↔ MayK k := by
  refine ⟨fun h => ?_, check_ok⟩
  unfold checkK at h
  split at h
  · omega
  · split at h
    · assumption
    · omega
end AL.Rows
namespace AL.Sep
open Go AL
set_option linter.unusedVariables false
def splitC (c : UInt8) : Bytes → List Bytes
  | [] => [[]]
  | b :: s => if b = c then [] :: splitC c s else match splitC c s with
    | [] => [[b]]
    | p :: ps => (b :: p) :: ps
def joinC (c : UInt8) : List Bytes → Bytes
  | [] => []
  | [p] => p
  | p :: q :: l => p ++ c :: joinC c (q :: l)
theorem split_ne (c : UInt8) (s : Bytes) : splitC c s ≠ [] := by
  cases s with
  | nil => simp [splitC]
  | cons b s =>
    unfold splitC
    split
    · simp
    · split <;> simp
theorem split_none {c : UInt8} : ∀ {a : Bytes}, c ∉ a → splitC c a = [a]
  | [], _ => rfl
  | b :: a, h => by
    simp only [List.mem_cons, not_or] at h
    unfold splitC
    rw [if_neg (fun e => h.1 e.symm), split_none h.2]
theorem split_app {c : UInt8} : ∀ {a : Bytes} (s : Bytes), c ∉ a → splitC c (a ++ c :: s) = a :: splitC c s
  | [], s, _ => by simp [splitC]
  | b :: a, s, h => by
    simp only [List.mem_cons, not_or] at h
    rw [List.cons_append, splitC, if_neg (fun e => h.1 e.symm), split_app s h.2]
theorem split_len (c : UInt8) (s : Bytes) : (splitC c s).length = s.count c + 1 := by
  induction s with
  | nil => rfl
  | cons b s ih =>
    unfold splitC
    by_cases e : b = c
    · rw [e, if_pos rfl, List.length_cons, ih, List.count_cons_self]
    · rw [if_neg e, List.count_cons_of_ne e]
      cases hp : splitC c s with
      | nil => exact absurd hp (split_ne c s)
      | cons p ps => rw [hp] at ih; simpa using ih
theorem join_split (c : UInt8) (s : Bytes) : joinC c (splitC c s) = s := by
  induction s with
  | nil => rfl
  | cons b s ih =>
    unfold splitC
    split
    · rename_i e
      rw [e]
      cases hp : splitC c s with
      | nil => exact absurd hp (split_ne c s)
      | cons p ps => rw [hp] at ih; show [] ++ c :: joinC c (p :: ps) = _; rw [ih]; rfl
    · split
      · rename_i hp; exact absurd hp (split_ne c s)
      · rename_i p ps hp
        rw [hp] at ih
        cases ps with
        | nil => show b :: p = _; rw [show p = s from ih]
        | cons q ps => show (b :: p) ++ c :: joinC c (q :: ps) = _; rw [← ih]; rfl
theorem split_one {c : UInt8} {s : Bytes} : (splitC c s).length = 1 ↔ c ∉ s := by
  rw [split_len, ← List.count_eq_zero]; omega
theorem index_none {c : UInt8} {s : Bytes} (h : Go.Lib.indexByte s c < 0) : c ∉ s := by
  induction s with
  | nil => simp
  | cons b s ih =>
    unfold Go.Lib.indexByte at h
    split at h
    · omega
    · rename_i hb
      have hg := Go.Lib.indexByte_ge s c
      simp only [List.mem_cons, not_or]
      refine ⟨fun e => hb (by simp [e]), ih ?_⟩
      split at h
      · rename_i h1; simp only [beq_iff_eq] at h1; omega
      · omega
theorem index_some {c : UInt8} {s : Bytes} (h : 0 ≤ Go.Lib.indexByte s c) : (Go.Lib.indexByte s c).toNat < s.length ∧ c ∉ List.take (Go.Lib.indexByte s c).toNat s ∧ s = List.take (Go.Lib.indexByte s c).toNat s ++ c :: List.drop ((Go.Lib.indexByte s c).toNat + 1) s := by
  induction s with
  | nil => simp [Go.Lib.indexByte] at h
  | cons b s ih =>
    unfold Go.Lib.indexByte at h ⊢
    by_cases hb : b = c
    · rw [hb]; simp
    · have e1 : (b == c) = false := by simpa using hb
      rw [e1] at h ⊢
      simp only [Bool.false_eq_true, if_false] at h ⊢
      have hg := Go.Lib.indexByte_ge s c
      by_cases h1 : Go.Lib.indexByte s c = -1
      · rw [h1] at h; simp at h
      · rw [if_neg (by simpa using h1)] at h ⊢
        obtain ⟨i1, i2, i3⟩ := ih (by omega)
        have e : (Go.Lib.indexByte s c + 1).toNat = (Go.Lib.indexByte s c).toNat + 1 := by omega
        rw [e]
        refine ⟨by simp only [List.length_cons]; omega, ?_, ?_⟩
        · simp only [List.take_succ_cons, List.mem_cons, not_or]; exact ⟨fun q => hb q.symm, i2⟩
        · simp only [List.take_succ_cons, List.drop_succ_cons, List.cons_append]
          rw [← i3]
theorem index_rng (c : UInt8) (s : Bytes) : -1 ≤ Go.Lib.indexByte s c ∧ Go.Lib.indexByte s c < (s.length : Int) := by
  refine ⟨Go.Lib.indexByte_ge s c, ?_⟩
  by_cases h : 0 ≤ Go.Lib.indexByte s c
  · have := (index_some h).1; omega
  · omega
theorem mem_len {c : UInt8} {s p : Bytes} (h : p ∈ splitC c s) : p.length ≤ s.length := by
  have key : ∀ (l : List Bytes), p ∈ l → p.length ≤ (joinC c l).length := by
    intro l
    induction l with
    | nil => intro h; cases h
    | cons q l ih =>
      intro h
      cases l with
      | nil => rw [List.mem_singleton.1 h]; exact Nat.le_refl _
      | cons r l =>
        show _ ≤ (q ++ c :: joinC c (r :: l)).length
        simp only [List.length_append, List.length_cons]
        rcases List.mem_cons.1 h with rfl | h
        · omega
        · have := ih h; omega
  have := key _ h
  rwa [join_split] at this
theorem fill_set {α : Type} (d : α) (l : List α) (i : Nat) (h : i < l.length) : List.set (List.take i l ++ List.replicate (l.length - i) d) i (List.getD l i d) = List.take (i + 1) l ++ List.replicate (l.length - (i + 1)) d := by
  rw [Lib.take_succ d l i h, List.append_assoc, List.set_append_right _ _ (by rw [List.length_take]; omega), List.length_take, show i - min i l.length = 0 by omega, show l.length - i = (l.length - (i + 1)) + 1 by omega, List.replicate_succ]
  rfl
theorem join_count (c : UInt8) : ∀ (l : List Bytes), l.length ≤ (joinC c l).length + 1
  | [] => by simp
  | [p] => by simp
  | p :: q :: l => by
    have ih := join_count c (q :: l)
    show (p :: q :: l).length ≤ (p ++ c :: joinC c (q :: l)).length + 1
    simp only [List.length_cons, List.length_append] at ih ⊢
    omega
theorem join_max {c : UInt8} {n : Nat} : ∀ (l : List Bytes), (∀ p ∈ l, p.length ≤ n) → (joinC c l).length ≤ l.length * (n + 1)
  | [], _ => by simp [joinC]
  | [p], h => by have := h p (by simp); simp [joinC]; omega
  | p :: q :: l, h => by
    have ih := join_max (c := c) (q :: l) (fun x hx => h x (List.mem_cons_of_mem _ hx))
    have := h p (by simp)
    show (p ++ c :: joinC c (q :: l)).length ≤ _
    simp only [List.length_cons, List.length_append] at ih ⊢
    rw [Nat.add_mul (l.length + 1) 1]
    omega
def cutAt (c : UInt8) (s : Bytes) : Bytes × Bytes × Bool := if 0 ≤ Go.Lib.indexByte s c then (List.take (Go.Lib.indexByte s c).toNat s, List.drop ((Go.Lib.indexByte s c).toNat + 1) s, true) else (s, [], false)
theorem cut_none {c : UInt8} {s : Bytes} (h : c ∉ s) : cutAt c s = (s, [], false) := by
  unfold cutAt
  refine if_neg fun h0 => h ?_
  have := (index_some h0).2.2
  rw [this]; simp
theorem cut_app {c : UInt8} {p r : Bytes} (h : c ∉ p) : cutAt c (p ++ c :: r) = (p, r, true) := by
  unfold cutAt
  have h0 : 0 ≤ Go.Lib.indexByte (p ++ c :: r) c := by
    apply Classical.byContradiction
    intro hn
    exact index_none (c := c) (s := p ++ c :: r) (by omega) (by simp)
  obtain ⟨_, h2, h3⟩ := index_some h0
  rw [if_pos h0]
  have key : ∀ (a b x y : Bytes), c ∉ a → c ∉ b → a ++ c :: x = b ++ c :: y → a = b ∧ x = y := by
    intro a
    induction a with
    | nil =>
      intro b x y _ hb e
      cases b with
      | nil => exact ⟨rfl, by injection e⟩
      | cons u b => injection e with e1 e2; exact absurd (by rw [e1]; simp) hb
    | cons u a ih =>
      intro b x y ha hb e
      cases b with
      | nil => injection e with e1 e2; exact absurd (by rw [e1]; simp) ha
      | cons v b =>
        injection e with e1 e2
        simp only [List.mem_cons, not_or] at ha hb
        obtain ⟨r1, r2⟩ := ih b x y ha.2 hb.2 e2
        exact ⟨by rw [e1, r1], r2⟩
  obtain ⟨k1, k2⟩ := key _ _ _ _ h h2 h3
  rw [← k1, ← k2]
theorem cut_some {c : UInt8} {s : Bytes} (h : (cutAt c s).2.2 = true) : s = (cutAt c s).1 ++ c :: (cutAt c s).2.1 ∧ c ∉ (cutAt c s).1 := by
  unfold cutAt at *
  split at h
  · rename_i h0
    rw [if_pos h0]
    obtain ⟨_, h2, h3⟩ := index_some h0
    exact ⟨h3, h2⟩
  · cases h
theorem gen_n (k : UInt8) (s : Bytes) : (min (((s.count k : Nat) : Int) + 1) ((List.length s : Int) + 1)).toNat = (splitC k s).length := by
  have h1 := split_len k s
  have h2 : s.count k ≤ s.length := List.count_le_length
  omega
theorem gen_more {k : UInt8} {c : Bytes} (h : 0 ≤ Go.Lib.indexByte c k) : splitC k c = List.take (Go.Lib.indexByte c k).toNat c :: splitC k (List.drop ((Go.Lib.indexByte c k).toNat + 1) c) := by
  obtain ⟨h1, h2, h3⟩ := index_some h
  conv => lhs; rw [h3]
  rw [split_app _ h2]
theorem set_rep (o : List Bytes) (n : Nat) (x : Bytes) : List.set (o ++ List.replicate (n + 1) []) o.length x = (o ++ [x]) ++ List.replicate n [] := by
  rw [List.set_append_right _ _ (Nat.le_refl _), Nat.sub_self, List.replicate_succ, List.set_cons_zero, List.append_assoc]; rfl
theorem gen_step {k : UInt8} {o : List Bytes} {c : Bytes} (h : 0 ≤ Go.Lib.indexByte c k) (x : Bytes) :
    List.set (o ++ List.replicate (splitC k c).length []) o.length x = (o ++ [x]) ++ List.replicate (splitC k (List.drop ((Go.Lib.indexByte c k).toNat + 1) c)).length [] := by
  rw [gen_more h, List.length_cons, set_rep]
theorem gen_inv {k : UInt8} {s c : Bytes} {o : List Bytes} (hP : splitC k s = o ++ splitC k c) (h : 0 ≤ Go.Lib.indexByte c k) : splitC k s = (o ++ [List.take (Go.Lib.indexByte c k).toNat c]) ++ splitC k (List.drop ((Go.Lib.indexByte c k).toNat + 1) c) := by
  rw [hP, gen_more h, List.append_assoc]; rfl
theorem gen_last {k : UInt8} {s c : Bytes} {o : List Bytes} (hP : splitC k s = o ++ splitC k c) (h : ¬ (o.length : Int) < ((splitC k s).length : Int) - 1) : k ∉ c := by
  have := congrArg List.length hP
  rw [List.length_append] at this
  have h1 := split_len k c
  exact split_one.1 (by omega)
theorem gen_end {k : UInt8} {s c : Bytes} {o : List Bytes} (hP : splitC k s = o ++ splitC k c) (hc : k ∉ c) : List.take (o.length + 1) (List.set (o ++ List.replicate (splitC k c).length []) o.length c) = splitC k s := by
  rw [hP, split_none hc]
  show List.take (o.length + 1) (List.set (o ++ List.replicate (0 + 1) []) o.length c) = _
  rw [set_rep]
  rw [List.replicate_zero, List.append_nil, List.take_of_length_le (by simp)]
theorem gen_le {k : UInt8} {s c : Bytes} {o : List Bytes} (hP : splitC k s = o ++ splitC k c) : o.length + (splitC k c).length = (splitC k s).length ∧ (splitC k s).length ≤ s.length + 1 ∧ 1 ≤ (splitC k c).length := by
  have h0 := congrArg List.length hP
  have h1 := split_len k s
  have h2 : s.count k ≤ s.length := List.count_le_length
  have h3 := split_len k c
  rw [List.length_append] at h0
  omega
def SInv (k : UInt8) (s : Bytes) (i f : Nat) (o : List Bytes) : Prop :=
  (i ≤ s.length ∧ f ≤ i ∧ k ∉ List.drop f (List.take i s) ∧ splitC k s = o ++ splitC k (List.drop f s)) ∨ (i = s.length + 1 ∧ f = i ∧ splitC k s = o)
theorem sinv_0 (k : UInt8) (s : Bytes) : SInv k s 0 0 [] := .inl ⟨Nat.zero_le _, Nat.le_refl _, by simp, by simp⟩
theorem sinv_len {k : UInt8} {s : Bytes} {i f : Nat} {o : List Bytes} (h : SInv k s i f o) : o.length ≤ s.length + 1 ∧ f ≤ i ∧ i ≤ s.length + 1 := by
  have h1 := split_len k s
  have h2 : s.count k ≤ s.length := List.count_le_length
  rcases h with ⟨a, b, c, d⟩ | ⟨a, b, d⟩
  · have := congrArg List.length d
    rw [List.length_append] at this; omega
  · have := congrArg List.length d; omega
theorem seg_split {s : Bytes} {i f : Nat} (hi : i < s.length) (hf : f ≤ i) : List.drop f s = List.drop f (List.take i s) ++ List.getD s i 0 :: List.drop (i + 1) s := by
  conv => lhs; rw [show s = List.take i s ++ List.drop i s from (List.take_append_drop i s).symm]
  rw [List.drop_append_of_le_length (by rw [List.length_take]; omega), AL.Lib.drop_cons 0 s i hi]
theorem sinv_hit {k : UInt8} {s : Bytes} {i f : Nat} {o : List Bytes} (h : SInv k s i f o) (hi : i ≤ s.length) (hc : i = s.length ∨ List.getD s i 0 = k) : SInv k s (i + 1) (i + 1) (o ++ [List.drop f (List.take i s)]) := by
  rcases h with ⟨a, b, c, d⟩ | ⟨a, b, d⟩
  · by_cases e : i = s.length
    · right
      refine ⟨by omega, rfl, ?_⟩
      rw [d]
      have : List.drop f (List.take i s) = List.drop f s := by rw [List.take_of_length_le (by omega)]
      rw [this] at c ⊢
      rw [split_none c]
    · left
      have hl : i < s.length := by omega
      have hk : List.getD s i 0 = k := hc.resolve_left e
      refine ⟨by omega, Nat.le_refl _, by rw [List.drop_of_length_le (by rw [List.length_take]; omega)]; simp, ?_⟩
      rw [d, seg_split hl b, hk, split_app _ c, List.append_assoc]; rfl
  · omega
theorem sinv_not {k : UInt8} {s : Bytes} {i f : Nat} {o : List Bytes} (h : SInv k s i f o) (hi : i ≤ s.length) (hc : ¬ (i = s.length ∨ List.getD s i 0 = k)) : SInv k s (i + 1) f o := by
  rcases h with ⟨a, b, c, d⟩ | ⟨a, b, d⟩
  · have hl : i < s.length := by omega
    refine .inl ⟨by omega, by omega, ?_, d⟩
    rw [AL.Lib.take_succ 0 s i hl, List.drop_append_of_le_length (by rw [List.length_take]; omega), List.mem_append, not_or]
    refine ⟨c, fun q => hc (.inr ?_)⟩
    exact (List.mem_singleton.1 q).symm
  · omega
theorem sinv_end {k : UInt8} {s : Bytes} {i f : Nat} {o : List Bytes} (h : SInv k s i f o) (hi : s.length < i) : splitC k s = o := by
  rcases h with ⟨a, b, c, d⟩ | ⟨a, b, d⟩
  · omega
  · exact d
end AL.Sep
namespace AL.Policy
open Go AL AL.Rune
open AL.Sep (splitC joinC cutAt)
set_option linter.unusedVariables false
set_option linter.unusedSimpArgs false
abbrev RuleV := Bytes × Int
def rowP (x : RuleV) (i : Nat) : SC := match i with | 0 => st x.1 | _ => u8 x.2
abbrev slP (l : List RuleV) : SC := .sl 2 RuleV ([], 0) rowP l
def prefS (l : List RuleV) : List Bytes := l.map (·.1)
def thereS (ahead : List RuleV) (p : Bytes) : Bool := ahead.any fun y => decide (y.1 = p)
def oneC (ahead : List RuleV) (x : RuleV) : Int :=
  if ¬ x.1 = [] ∧ ¬ Route.checkS x.1 = 0 then Route.checkS x.1 else if 63 < x.2 then 2 else if thereS ahead x.1 = true then 20 else 0
def chkC : List RuleV → List RuleV → Int
  | _, [] => 0
  | ahead, x :: l => if oneC ahead x = 0 then chkC (ahead ++ [x]) l else oneC ahead x
def checkP (l : List RuleV) : Int := if 4 < l.length then 24 else chkC [] l
def ChkAt (l : List RuleV) (k : Nat) : Prop := chkC [] l = chkC (List.take k l) (List.drop k l)
theorem chk_0 (l : List RuleV) : ChkAt l 0 := by unfold ChkAt; rw [List.take_zero, List.drop_zero]
theorem chk_step {l : List RuleV} {k : Nat} (h : k < l.length) (hN : ChkAt l k) (h0 : oneC (List.take k l) (List.getD l k ([], 0)) = 0) : ChkAt l (k + 1) := by
  unfold ChkAt at *
  rw [hN, Lib.drop_cons ([], 0) l k h]
  show (if oneC _ _ = 0 then _ else _) = _
  rw [if_pos h0, ← Lib.take_succ ([], 0) l k h]
theorem chk_bad {l : List RuleV} {k : Nat} (h : k < l.length) (hl : ¬ 4 < l.length) (hN : ChkAt l k) (h0 : ¬ oneC (List.take k l) (List.getD l k ([], 0)) = 0) : checkP l = oneC (List.take k l) (List.getD l k ([], 0)) := by
  unfold ChkAt at hN
  unfold checkP
  rw [if_neg hl, hN, Lib.drop_cons ([], 0) l k h]
  show (if oneC _ _ = 0 then _ else _) = _
  rw [if_neg h0]
theorem chk_end {l : List RuleV} {k : Nat} (h : l.length ≤ k) (hl : ¬ 4 < l.length) (hN : ChkAt l k) : checkP l = 0 := by
  unfold ChkAt at hN
  unfold checkP
  rw [if_neg hl, hN, List.drop_of_length_le h]
  rfl
theorem chk_many {l : List RuleV} (h : 4 < l.length) : checkP l = 24 := if_pos h
theorem there_step {l : List RuleV} {p : Bytes} {j : Nat} (h : j < l.length) (hN : thereS (List.take j l) p = false) (h2 : ¬ (List.getD l j ([], 0)).1 = p) : thereS (List.take (j + 1) l) p = false := by
  unfold thereS at *
  rw [Lib.take_succ ([], 0) l j h, List.any_append, hN]
  simp only [List.any_cons, List.any_nil, Bool.or_false, Bool.false_or, decide_eq_false_iff_not]
  exact h2
theorem there_hit {l : List RuleV} {p : Bytes} {j k : Nat} (h : j < k) (hk : k < l.length) (h2 : (List.getD l j ([], 0)).1 = p) : thereS (List.take k l) p = true := by
  unfold thereS
  rw [List.any_eq_true]
  refine ⟨List.getD l j ([], 0), ?_, decide_eq_true h2⟩
  rw [Lib.getD_lt _ _ _ (by omega), List.mem_take_iff_getElem]
  exact ⟨j, by omega, rfl⟩
theorem there_idx (l : List RuleV) (p : Bytes) : decide (0 ≤ Lib.idxS (fun y : RuleV => decide (y.1 = p)) l) = thereS l p := by
  unfold thereS
  rw [Bool.eq_iff_iff, decide_eq_true_eq, List.any_eq_true]
  constructor
  · intro h
    obtain ⟨h1, _⟩ := Lib.idx_pos (([], 0) : RuleV) h
    exact ⟨_, Lib.getD_mem ([], 0) l _ (by have := Lib.idx_lt (fun y : RuleV => decide (y.1 = p)) l; omega), h1⟩
  · rintro ⟨x, hx, hp⟩
    by_cases h : 0 ≤ Lib.idxS (fun y : RuleV => decide (y.1 = p)) l
    · exact h
    · have h2 := Lib.idx_neg (p := fun y : RuleV => decide (y.1 = p)) (by omega) x hx
      exact absurd (h2.symm.trans hp) (by decide)
def OkP (x : RuleV) : Prop := (x.1 = [] ∨ Route.checkS x.1 = 0) ∧ x.2 ≤ 63
theorem one_ok {ahead : List RuleV} {x : RuleV} : oneC ahead x = 0 ↔ OkP x ∧ ∀ y ∈ ahead, ¬ y.1 = x.1 := by
  have ht : thereS ahead x.1 = true ↔ ∃ y ∈ ahead, y.1 = x.1 := by
    unfold thereS
    rw [List.any_eq_true]
    simp only [decide_eq_true_eq]
  unfold oneC OkP
  constructor
  · intro h
    split at h
    · rename_i q; exact absurd h q.2
    · rename_i q
      split at h
      · omega
      · split at h
        · omega
        · rename_i q2 q3
          refine ⟨⟨?_, by omega⟩, fun y hy e => q3 (ht.2 ⟨y, hy, e⟩)⟩
          apply Classical.byContradiction
          intro hn
          rw [not_or] at hn
          exact q hn
  · rintro ⟨⟨h1, h2⟩, h3⟩
    rw [if_neg (by rintro ⟨a, b⟩; rcases h1 with h1 | h1; exact a h1; exact b h1), if_neg (by omega), if_neg]
    intro q
    obtain ⟨y, hy, e⟩ := ht.1 q
    exact h3 y hy e
def MayP (l : List RuleV) : Prop := l.length ≤ 4 ∧ (∀ x ∈ l, OkP x) ∧ (prefS l).Nodup
theorem chk_may : ∀ (l ahead : List RuleV), chkC ahead l = 0 ↔ (∀ x ∈ l, OkP x) ∧ (prefS l).Nodup ∧ ∀ x ∈ l, ∀ y ∈ ahead, ¬ y.1 = x.1 := by
  intro l
  induction l with
  | nil => intro ahead; simp [chkC, prefS]
  | cons x l ih =>
    intro ahead
    have e : chkC ahead (x :: l) = if oneC ahead x = 0 then chkC (ahead ++ [x]) l else oneC ahead x := rfl
    have hp : (prefS (x :: l)).Nodup ↔ (∀ y ∈ l, ¬ x.1 = y.1) ∧ (prefS l).Nodup := by
      unfold prefS
      rw [List.map_cons, List.nodup_cons]
      simp only [List.mem_map, not_exists, not_and]
      exact ⟨fun h => ⟨fun y hy e => h.1 y hy e.symm, h.2⟩, fun h => ⟨fun y hy e => h.1 y hy e.symm, h.2⟩⟩
    rw [e, hp]
    by_cases h0 : oneC ahead x = 0
    · rw [if_pos h0, ih]
      have h1 := one_ok.1 h0
      constructor
      · rintro ⟨a, b, c⟩
        refine ⟨fun y hy => ?_, ⟨fun y hy => c y hy x (by simp), b⟩, fun y hy z hz => ?_⟩
        · rcases List.mem_cons.1 hy with rfl | hy
          · exact h1.1
          · exact a y hy
        · rcases List.mem_cons.1 hy with rfl | hy
          · exact h1.2 z hz
          · exact c y hy z (List.mem_append_left _ hz)
      · rintro ⟨a, ⟨b1, b2⟩, c⟩
        refine ⟨fun y hy => a y (List.mem_cons_of_mem _ hy), b2, fun y hy z hz => ?_⟩
        rcases List.mem_append.1 hz with hz | hz
        · exact c y (List.mem_cons_of_mem _ hy) z hz
        · rw [List.mem_singleton.1 hz]; exact b1 y hy
    · rw [if_neg h0]
      refine ⟨fun h => absurd h h0, fun h => absurd (one_ok.2 ⟨h.1 x (by simp), fun y hy => h.2.2 x (by simp) y hy⟩) h0⟩
theorem check_may {l : List RuleV} : checkP l = 0 ↔ MayP l := by
  unfold checkP MayP
  by_cases h : 4 < l.length
  · rw [if_pos h]; omega
  · rw [if_neg h, chk_may]
    constructor
    · rintro ⟨a, b, c⟩; exact ⟨by omega, a, b⟩
    · rintro ⟨a, b, c⟩; exact ⟨b, c, fun x _ y hy => by cases hy⟩
theorem pref_len (l : List RuleV) : (prefS l).length = l.length := List.length_map _
theorem wrap_byte {n : Nat} (h : n < 256) : IntKind.wrap .u8 (n : Int) = (n : Int) := by
  simp [IntKind.wrap, IntKind.signed, IntKind.bits]
  omega
def bitN (n : Int) (i : Nat) : Bool := decide (n / 2 ^ i % 2 = 1)
def shrN (n : Int) (i : Nat) : Int := n / 2 ^ i
theorem shr_0 (n : Int) : shrN n 0 = n := by unfold shrN; simp
theorem shr_rng {n : Int} (h0 : 0 ≤ n) (h1 : n < 256) (i : Nat) : 0 ≤ shrN n i ∧ shrN n i < 256 := by
  unfold shrN
  refine ⟨Int.ediv_nonneg h0 (Int.pow_nonneg (by decide)), ?_⟩
  exact Int.lt_of_le_of_lt (Int.ediv_le_self _ h0) h1
theorem shr_step {n : Int} (h0 : 0 ≤ n) (h1 : n < 256) (i : Nat) : IntKind.wrap .u8 (Int.tdiv (shrN n i) 2) = shrN n (i + 1) := by
  have hr := shr_rng h0 h1 i
  have e : Int.tdiv (shrN n i) 2 = shrN n (i + 1) := by
    rw [Int.tdiv_eq_ediv_of_nonneg hr.1]
    unfold shrN
    rw [Int.pow_succ, Int.ediv_ediv_of_nonneg (Int.pow_nonneg (by decide))]
  rw [e]
  have hr2 := shr_rng h0 h1 (i + 1)
  simp [IntKind.wrap, IntKind.signed, IntKind.bits]
  omega
theorem shr_bit {n : Int} (h0 : 0 ≤ n) (h1 : n < 256) (i : Nat) : Int.tmod (shrN n i) 2 = 1 ↔ bitN n i = true := by
  have hr := shr_rng h0 h1 i
  unfold bitN
  rw [decide_eq_true_eq, Int.tmod_eq_emod_of_nonneg hr.1]
  exact Iff.rfl
def lets : Bytes := [114, 119, 100, 120, 108, 115]
def laysN (n : Nat) : Bytes := (List.range 6).flatMap fun i => if n / 2 ^ i % 2 = 1 then [List.getD lets i 0] else []
def layS (n : Int) : Bytes := laysN n.toNat
def layK (n : Int) (k : Nat) : Bytes := (List.range k).flatMap fun i => if bitN n i = true then [List.getD lets i 0] else []
theorem lay_6 {n : Int} (h0 : 0 ≤ n) : layK n 6 = layS n := by
  obtain ⟨m, rfl⟩ := Int.eq_ofNat_of_zero_le h0
  unfold layK layS laysN
  rw [Int.toNat_natCast]
  have e : (fun i => if bitN (m : Int) i = true then [List.getD lets i 0] else []) = fun i => if m / 2 ^ i % 2 = 1 then [List.getD lets i 0] else [] := by
    funext i
    have : bitN (m : Int) i = true ↔ m / 2 ^ i % 2 = 1 := by
      unfold bitN
      rw [decide_eq_true_eq]
      have e2 : ((m : Int) / 2 ^ i % 2) = ((m / 2 ^ i % 2 : Nat) : Int) := by
        rw [Int.natCast_emod, Int.natCast_ediv, Int.natCast_pow]; rfl
      rw [e2]; omega
    by_cases q : m / 2 ^ i % 2 = 1
    · rw [if_pos q, if_pos (this.2 q)]
    · rw [if_neg q, if_neg (fun z => q (this.1 z))]
  rw [e]
theorem lay_t {n : Int} {k : Nat} (h : bitN n k = true) : layK n (k + 1) = layK n k ++ [List.getD lets k 0] := by
  unfold layK
  rw [List.range_succ, List.flatMap_append, List.flatMap_cons, List.flatMap_nil, if_pos h, List.append_nil]
theorem lay_f {n : Int} {k : Nat} (h : bitN n k = false) : layK n (k + 1) = layK n k := by
  unfold layK
  rw [List.range_succ, List.flatMap_append, List.flatMap_cons, List.flatMap_nil, if_neg (by rw [h]; decide), List.append_nil, List.append_nil]
theorem lay_len (n : Int) : ∀ k, (layK n k).length ≤ k := by
  intro k
  induction k with
  | zero => simp [layK]
  | succ k ih =>
    cases h : bitN n k with
    | true => rw [lay_t h, List.length_append]; simp only [List.length_cons, List.length_nil]; omega
    | false => rw [lay_f h]; omega
theorem lay_one (i : Nat) (h : i < 6) : List.drop i (List.take (i + 1) lets) = [List.getD lets i 0] := by
  have : ∀ i, i < 6 → List.drop i (List.take (i + 1) lets) = [List.getD lets i 0] := by decide
  exact this i h
theorem layS_len (n : Int) : (layS n).length ≤ 6 := by
  have := lay_len (n.toNat : Int) 6
  rw [lay_6 (by omega)] at this
  unfold layS at *
  rwa [Int.toNat_natCast] at this
def pieceS (x : RuleV) : Bytes := (x.1 ++ [58]) ++ layS x.2
def textOf (l : List RuleV) : Bytes := joinC 44 (l.map pieceS)
def textP (l : List RuleV) : Bytes × Int := if checkP l = 0 then (textOf l, 0) else ([], checkP l)
theorem text_ok {l : List RuleV} (h : checkP l = 0) : textP l = (textOf l, 0) := if_pos h
theorem text_no {l : List RuleV} (h : ¬ checkP l = 0) : textP l = ([], checkP l) := if_neg h
theorem piece_getD (l : List RuleV) (k : Nat) (h : k < l.length) : List.getD (l.map pieceS) k [] = pieceS (List.getD l k ([], 0)) := by
  rw [Lib.getD_lt _ _ _ (by rw [List.length_map]; exact h), Lib.getD_lt _ _ _ h, List.getElem_map]
theorem piece_step (l : List RuleV) (k : Nat) (h : k < l.length) : List.set ((List.take k l).map pieceS ++ List.replicate (l.length - k) []) k (pieceS (List.getD l k ([], 0))) = (List.take (k + 1) l).map pieceS ++ List.replicate (l.length - (k + 1)) [] := by
  have := Sep.fill_set ([] : Bytes) (l.map pieceS) k (by rw [List.length_map]; exact h)
  rw [List.length_map, piece_getD l k h] at this
  rw [List.map_take, List.map_take]
  exact this
theorem piece_end (l : List RuleV) (k : Nat) (h : l.length ≤ k) : (List.take k l).map pieceS ++ List.replicate (l.length - k) [] = l.map pieceS := by
  rw [List.take_of_length_le h, show l.length - k = 0 by omega]; simp
theorem text_len {l : List RuleV} {n : Nat} (h : ∀ x ∈ l, x.1.length ≤ n) : (textOf l).length ≤ l.length * (n + 8) := by
  have := Sep.join_max (c := 44) (n := n + 7) (l.map pieceS) (fun p hp => by
    obtain ⟨x, hx, rfl⟩ := List.mem_map.1 hp
    have h1 := h x hx
    have h2 := layS_len x.2
    unfold pieceS
    simp only [List.length_append, List.length_cons, List.length_nil]
    omega)
  rw [List.length_map] at this
  exact this
def atN (out : Nat) : Nat := if out = 0 then 0 else Nat.log2 out + 1
theorem caps_grow : ∀ out, out < 64 → ∀ j, j < 6 → atN out ≤ j → out + 2 ^ j < 64 ∧ laysN (out + 2 ^ j) = laysN out ++ [List.getD lets j 0] ∧ atN (out + 2 ^ j) = j + 1 ∧
    IntKind.wrap .u8 (((BitVec.ofInt 8 (out : Int) ||| BitVec.ofInt 8 (IntKind.wrap .u8 ((1 : Int) * 2 ^ (min (j : Int).toNat (IntKind.bits .u8))))).toNat : Int)) = ((out + 2 ^ j : Nat) : Int) := by decide +kernel
theorem caps_fail : ∀ n, n < 64 → ∀ out, out < 64 → List.isPrefixOf (laysN out) (laysN n) = true → laysN out = laysN n ∨ ∃ j, j < 6 ∧ (atN out ≤ j ∧ List.getD lets j 0 = List.getD (laysN n) (laysN out).length 0) := by decide +kernel
theorem lays_inj : ∀ n, n < 64 → ∀ m, m < 64 → laysN n = laysN m → n = m := by decide +kernel
theorem at_le : ∀ out, out < 64 → atN out ≤ 6 := by decide +kernel
theorem lets_low : ∀ j, j < 6 → (List.getD lets j 0).toNat < 128 ∧ List.getD lets j 0 ≠ 44 ∧ List.getD lets j 0 ≠ 58 ∧ List.getD lets j 0 ≠ 32 := by decide
def capsN (r : Bytes) : Option Nat := (List.range 64).find? fun n => decide (laysN n = r)
def capsR (r : Bytes) : Int × Bool := match capsN r with
  | some n => ((n : Int), true)
  | none => (0, false)
theorem capsN_some {r : Bytes} {n : Nat} (h : capsN r = some n) : n < 64 ∧ laysN n = r := by
  unfold capsN at h
  have h1 := List.find?_some h
  have h2 := List.mem_of_find?_eq_some h
  exact ⟨List.mem_range.1 h2, of_decide_eq_true h1⟩
theorem capsR_ok {n : Nat} {r : Bytes} (h : n < 64) (e : laysN n = r) : capsR r = ((n : Int), true) := by
  unfold capsR
  cases hc : capsN r with
  | none =>
    exfalso
    unfold capsN at hc
    rw [List.find?_eq_none] at hc
    exact hc n (List.mem_range.2 h) (decide_eq_true e)
  | some m =>
    obtain ⟨h1, h2⟩ := capsN_some hc
    rw [lays_inj n h m h1 (e.trans h2.symm)]
theorem capsR_no {r : Bytes} (h : ∀ n, n < 64 → laysN n ≠ r) : capsR r = (0, false) := by
  unfold capsR
  cases hc : capsN r with
  | none => rfl
  | some m => obtain ⟨h1, h2⟩ := capsN_some hc; exact absurd h2 (h m h1)
theorem capsR_yes {r : Bytes} (h : (capsR r).2 = true) : ∃ n, n < 64 ∧ laysN n = r ∧ capsR r = ((n : Int), true) := by
  unfold capsR at h
  cases hc : capsN r with
  | none => rw [hc] at h; cases h
  | some m => obtain ⟨h1, h2⟩ := capsN_some hc; exact ⟨m, h1, h2, capsR_ok h1 h2⟩
theorem dec_low {s : Bytes} {pos : Nat} (h : pos < s.length) (hb : (List.getD s pos 0).toNat < 128) : decS s pos = ((List.getD s pos 0).toNat, 1) := by
  rw [Rune.dec_N]
  unfold Go.Lib.decodeN
  rw [if_pos hb]
theorem dec_high {s : Bytes} {pos : Nat} (h : pos < s.length) (hb : ¬ (List.getD s pos 0).toNat < 128) : 128 ≤ (decS s pos).1 := by
  rw [Rune.dec_N]
  have q0 := Rune.byte_lt s pos
  unfold Go.Lib.decodeN
  rw [if_neg hb]
  repeat' split
  all_goals (simp only []; omega)
theorem caps_stop {s : Bytes} {pos out : Nat} (ho : out < 64) (hs : laysN out = List.take pos s) (h : pos < s.length) (hN : ∀ m, atN out ≤ m → m < 6 → ¬ (List.getD lets m 0).toNat = (decS s pos).1) : capsR s = (0, false) := by
  refine capsR_no fun n hn e => ?_
  have hp : List.isPrefixOf (laysN out) (laysN n) = true := by
    rw [e, hs, List.isPrefixOf_iff_prefix]; exact List.take_prefix _ _
  have hl : (laysN out).length = pos := by rw [hs, List.length_take]; omega
  rcases caps_fail n hn out ho hp with q | ⟨j, h1, h2, h3⟩
  · rw [e] at q
    rw [q] at hl; omega
  · rw [e, hl] at h3
    have hlow := (lets_low j h1).1
    refine hN j h2 h1 ?_
    rw [dec_low h (by rw [← h3]; exact hlow), h3]
theorem caps_next {s : Bytes} {pos out j : Nat} (ho : out < 64) (hs : laysN out = List.take pos s) (h : pos < s.length) (hj : j < 6) (ha : atN out ≤ j) (hc : (List.getD lets j 0).toNat = (decS s pos).1) : out + 2 ^ j < 64 ∧ laysN (out + 2 ^ j) = List.take (pos + (decS s pos).2) s ∧ atN (out + 2 ^ j) = j + 1 := by
  obtain ⟨g1, g2, g3, _⟩ := caps_grow out ho j hj ha
  refine ⟨g1, ?_, g3⟩
  have hlow := (lets_low j hj).1
  have hb : (List.getD s pos 0).toNat < 128 := by
    apply Classical.byContradiction
    intro hn
    have := dec_high h hn
    omega
  rw [dec_low h hb] at hc ⊢
  have e : List.getD lets j 0 = List.getD s pos 0 := UInt8.toNat_inj.1 hc
  rw [g2, hs, e, Lib.take_succ 0 s pos h]
theorem caps_done {s : Bytes} {pos out : Nat} (ho : out < 64) (hs : laysN out = List.take pos s) (h : s.length ≤ pos) : capsR s = ((out : Int), true) := by
  rw [List.take_of_length_le h] at hs
  exact capsR_ok ho hs
def scanP (s : Bytes) : RuleV × Bool := if (cutAt 58 s).2.2 = true ∧ (capsR (cutAt 58 s).2.1).2 = true then (((cutAt 58 s).1, (capsR (cutAt 58 s).2.1).1), true) else (([], 0), false)
def ruled (l : List Bytes) : List RuleV := l.map fun p => (scanP p).1
def fineS (l : List Bytes) : Bool := l.all fun p => (scanP p).2
def parseP (s : Bytes) : List RuleV × Int :=
  if s = [] then ([], 0) else if fineS (splitC 44 s) = true then (if checkP (ruled (splitC 44 s)) = 0 then (ruled (splitC 44 s), 0) else ([], checkP (ruled (splitC 44 s)))) else ([], 4)
theorem scan_ok {s : Bytes} (h1 : (cutAt 58 s).2.2 = true) (h2 : (capsR (cutAt 58 s).2.1).2 = true) : scanP s = (((cutAt 58 s).1, (capsR (cutAt 58 s).2.1).1), true) := if_pos ⟨h1, h2⟩
theorem scan_no {s : Bytes} (h : ¬ ((cutAt 58 s).2.2 = true ∧ (capsR (cutAt 58 s).2.1).2 = true)) : scanP s = (([], 0), false) := if_neg h
theorem ruled_step (l : List Bytes) (k : Nat) (h : k < l.length) : ruled (List.take k l) ++ [(scanP (List.getD l k [])).1] = ruled (List.take (k + 1) l) := by
  unfold ruled
  rw [Lib.take_succ [] l k h, List.map_append]; rfl
theorem ruled_len (l : List Bytes) : (ruled l).length = l.length := List.length_map _
theorem fine_step {l : List Bytes} {k : Nat} (h : k < l.length) (hN : fineS (List.take k l) = true) (h2 : (scanP (List.getD l k [])).2 = true) : fineS (List.take (k + 1) l) = true := by
  unfold fineS at *
  rw [Lib.take_succ [] l k h, List.all_append, hN]
  simp only [List.all_cons, List.all_nil, Bool.and_true, Bool.true_and]
  exact h2
theorem fine_bad {l : List Bytes} {k : Nat} (h : k < l.length) (h2 : (scanP (List.getD l k [])).2 = false) : fineS l = false := by
  unfold fineS
  rw [List.all_eq_false]
  exact ⟨_, Lib.getD_mem [] l k h, by rw [h2]; decide⟩
theorem parse_nil : parseP [] = ([], 0) := rfl
theorem parse_bad {s : Bytes} (h0 : ¬ s = []) (h : fineS (splitC 44 s) = false) : parseP s = ([], 4) := by
  unfold parseP
  rw [if_neg h0, if_neg (by rw [h]; decide)]
theorem parse_no {s : Bytes} (h0 : ¬ s = []) (h : fineS (splitC 44 s) = true) (h2 : ¬ checkP (ruled (splitC 44 s)) = 0) : parseP s = ([], checkP (ruled (splitC 44 s))) := by
  unfold parseP
  rw [if_neg h0, if_pos h, if_neg h2]
theorem parse_ok {s : Bytes} (h0 : ¬ s = []) (h : fineS (splitC 44 s) = true) (h2 : checkP (ruled (splitC 44 s)) = 0) : parseP s = (ruled (splitC 44 s), 0) := by
  unfold parseP
  rw [if_neg h0, if_pos h, if_pos h2]
theorem scan_piece {p : Bytes} (h : (scanP p).2 = true) : pieceS (scanP p).1 = p ∧ 0 ≤ (scanP p).1.2 := by
  unfold scanP at h
  split at h
  · rename_i q
    obtain ⟨n, h1, h2, h3⟩ := capsR_yes q.2
    rw [scan_ok q.1 q.2, h3]
    refine ⟨?_, by simp only []; omega⟩
    obtain ⟨c1, c2⟩ := Sep.cut_some q.1
    unfold pieceS layS
    simp only [Int.toNat_natCast]
    rw [h2]
    conv => rhs; rw [c1]
    rw [List.append_assoc]; rfl
  · cases h
theorem text_parse {s : Bytes} (h : (parseP s).2 = 0) : textP (parseP s).1 = (s, 0) ∧ checkP (parseP s).1 = 0 ∧ ∀ x ∈ (parseP s).1, 0 ≤ x.2 := by
  by_cases e : s = []
  · subst e; rw [parse_nil]; exact ⟨rfl, rfl, fun x hx => by cases hx⟩
  · cases hf : fineS (splitC 44 s) with
    | false => rw [parse_bad e hf] at h; exact absurd h (by decide)
    | true =>
      by_cases hc : checkP (ruled (splitC 44 s)) = 0
      · rw [parse_ok e hf hc]
        have ha := List.all_eq_true.1 hf
        refine ⟨?_, hc, fun x hx => ?_⟩
        · rw [text_ok hc]
          refine Prod.ext ?_ rfl
          show textOf (ruled (splitC 44 s)) = s
          unfold textOf ruled
          rw [List.map_map]
          have : List.map (pieceS ∘ fun p => (scanP p).1) (splitC 44 s) = splitC 44 s := by
            conv => rhs; rw [← List.map_id (splitC 44 s)]
            exact List.map_congr_left fun p hp => (scan_piece (ha p hp)).1
          rw [this, Sep.join_split]
        · obtain ⟨p, hp, rfl⟩ := List.mem_map.1 hx
          exact (scan_piece (ha p hp)).2
      · rw [parse_no e hf hc] at h; exact absurd h hc
theorem check_len {l : List RuleV} (h : checkP l = 0) : l.length ≤ 4 := (check_may.1 h).1
theorem ok_len {l : List RuleV} (h : checkP l = 0) : ∀ x ∈ l, x.1.length ≤ 64 := by
  intro x hx
  rcases ((check_may.1 h).2.1 x hx).1 with e | e
  · rw [e]; simp
  · apply Classical.byContradiction
    intro hn
    rw [Route.check_big (by omega)] at e
    omega
theorem ok_at {l : List RuleV} (h : checkP l = 0) {k : Nat} (hk : k < l.length) : (List.getD l k ([], 0)).1.length ≤ 64 := ok_len h _ (Lib.getD_mem ([], 0) l k hk)
theorem text_take {l : List RuleV} (h : checkP l = 0) (k : Nat) : (textOf (List.take k l)).length ≤ 1000 := by
  have h1 := text_len (l := List.take k l) (n := 64) (fun x hx => ok_len h x (List.mem_of_mem_take hx))
  have h2 := check_len h
  have h3 : (List.take k l).length ≤ 4 := by rw [List.length_take]; omega
  have : (List.take k l).length * (64 + 8) ≤ 4 * (64 + 8) := Nat.mul_le_mul_right _ h3
  omega
theorem text_small {l : List RuleV} (h : checkP l = 0) : (joinC 44 (l.map pieceS)).length ≤ 1000 := by
  have := text_take h l.length
  rw [List.take_length] at this
  exact this
theorem textP_len (l : List RuleV) : (textP l).1.length ≤ 1000 := by
  by_cases h : checkP l = 0
  · rw [text_ok h]; have := text_take h l.length; rw [List.take_length] at this; exact this
  · rw [text_no h]; simp
theorem split_le (c : UInt8) (s : Bytes) : (splitC c s).length ≤ s.length + 1 := by
  have h1 := Sep.split_len c s
  have h2 : s.count c ≤ s.length := List.count_le_length
  omega
theorem parse_len (s : Bytes) : (parseP s).1.length ≤ s.length + 1 := by
  unfold parseP
  have := split_le 44 s
  repeat' split
  all_goals (simp only [ruled_len, List.length_nil]; omega)
theorem ruled_snoc (o : List Bytes) (x : Bytes) : ruled (o ++ [x]) = ruled o ++ [(scanP x).1] := by unfold ruled; rw [List.map_append]; rfl
theorem fine_snoc {o : List Bytes} {x : Bytes} (h : fineS o = true) (h2 : (scanP x).2 = true) : fineS (o ++ [x]) = true := by
  unfold fineS at *
  rw [List.all_append, h]
  simp only [List.all_cons, List.all_nil, Bool.and_true, Bool.true_and]
  exact h2
theorem byte44 {b : UInt8} : ((b.toNat : Nat) : Int) = 44 ↔ b = 44 := ⟨fun h => UInt8.toNat_inj.1 (by have : (44 : UInt8).toNat = 44 := rfl; omega), fun h => by subst h; rfl⟩
theorem byte58 {b : UInt8} : ((b.toNat : Nat) : Int) = 58 ↔ b = 58 := ⟨fun h => UInt8.toNat_inj.1 (by have : (58 : UInt8).toNat = 58 := rfl; omega), fun h => by subst h; rfl⟩
theorem sinv_in {k : UInt8} {s : Bytes} {i f : Nat} {o : List Bytes} {x : Bytes} (h : Sep.SInv k s i f (o ++ [x])) : x ∈ splitC k s := by
  rcases h with ⟨_, _, _, d⟩ | ⟨_, _, d⟩
  · rw [d]; simp
  · rw [d]; simp
theorem ref_hit {s : Bytes} {i f : Nat} {o : List Bytes} (h : Sep.SInv 44 s i f o) (hi : i ≤ s.length) (hc : (i : Int) = (List.length s : Int) ∨ ((List.getD s i 0).toNat : Int) = 44) : Sep.SInv 44 s (i + 1) (i + 1) (o ++ [List.drop f (List.take i s)]) :=
  Sep.sinv_hit h hi (hc.elim (fun q => .inl (by omega)) (fun q => .inr (byte44.1 q)))
theorem ref_not {s : Bytes} {i f : Nat} {o : List Bytes} (h : Sep.SInv 44 s i f o) (hi : i ≤ s.length) (hc : ¬ (i : Int) = (List.length s : Int) ∧ ¬ ((List.getD s i 0).toNat : Int) = 44) : Sep.SInv 44 s (i + 1) f o :=
  Sep.sinv_not h hi (fun q => q.elim (fun q => hc.1 (by omega)) (fun q => hc.2 (byte44.2 q)))
theorem fine_bad_in {s x : Bytes} (hx : x ∈ splitC 44 s) (h : (scanP x).2 = false) : fineS (splitC 44 s) = false := by
  unfold fineS
  rw [List.all_eq_false]
  exact ⟨x, hx, by rw [h]; decide⟩
def FirstAt (s : Bytes) (k : Nat) (a : Int) : Prop := (a = -1 ∧ (58 : UInt8) ∉ List.drop k s) ∨ ∃ m : Nat, a = m ∧ k ≤ m ∧ m < s.length ∧ List.getD s m 0 = 58 ∧ (58 : UInt8) ∉ List.drop k (List.take m s)
theorem first_start (s : Bytes) : FirstAt s s.length (-1) := .inl ⟨rfl, by rw [List.drop_length]; simp⟩
theorem first_rng {s : Bytes} {k : Nat} {a : Int} (h : FirstAt s k a) : -1 ≤ a ∧ a < (s.length : Int) := by
  rcases h with ⟨h, _⟩ | ⟨m, h1, h2, h3, _⟩ <;> omega
theorem first_hit {s : Bytes} {k : Nat} {a : Int} (h0 : 0 < k) (hk : k ≤ s.length) (hc : ((List.getD s ((k : Int) - 1).toNat 0).toNat : Int) = 58) : FirstAt s (k - 1) ((k : Int) - 1) := by
  rw [show ((k : Int) - 1).toNat = k - 1 by omega] at hc
  refine .inr ⟨k - 1, by omega, Nat.le_refl _, by omega, byte58.1 hc, ?_⟩
  rw [List.drop_of_length_le (by rw [List.length_take]; omega)]; simp
theorem first_not {s : Bytes} {k : Nat} {a : Int} (h : FirstAt s k a) (h0 : 0 < k) (hk : k ≤ s.length) (hc : ¬ ((List.getD s ((k : Int) - 1).toNat 0).toNat : Int) = 58) : FirstAt s (k - 1) a := by
  rw [show ((k : Int) - 1).toNat = k - 1 by omega] at hc
  have hb : ¬ List.getD s (k - 1) 0 = 58 := fun q => hc (byte58.2 q)
  rcases h with ⟨h1, h2⟩ | ⟨m, h1, h2, h3, h4, h5⟩
  · refine .inl ⟨h1, ?_⟩
    rw [Lib.drop_cons 0 s (k - 1) (by omega), show k - 1 + 1 = k by omega, List.mem_cons, not_or]
    exact ⟨fun q => hb q.symm, h2⟩
  · refine .inr ⟨m, h1, by omega, h3, h4, ?_⟩
    have hl : k - 1 < (List.take m s).length := by rw [List.length_take]; omega
    rw [Lib.drop_cons 0 (List.take m s) (k - 1) hl, show k - 1 + 1 = k by omega, List.mem_cons, not_or]
    refine ⟨fun q => hb ?_, h5⟩
    rw [q, List.getD_eq_getElem?_getD, List.getD_eq_getElem?_getD, List.getElem?_take, if_pos (by omega)]
theorem first_cut {s : Bytes} {a : Int} (h : FirstAt s 0 a) (h0 : ¬ a < 0) : cutAt 58 s = (List.take a.toNat s, List.drop (a.toNat + 1) s, true) := by
  rcases h with ⟨h1, _⟩ | ⟨m, h1, _, h3, h4, h5⟩
  · omega
  · subst h1
    rw [Int.toNat_natCast]
    rw [List.drop_zero] at h5
    conv => lhs; rw [Lib.take_cons 0 s m h3, h4]
    exact Sep.cut_app h5
theorem scan_neg {s : Bytes} {a : Int} (h : FirstAt s 0 a) (h0 : a < 0) : scanP s = (([], 0), false) := by
  rcases h with ⟨_, h2⟩ | ⟨m, h1, _⟩
  · rw [List.drop_zero] at h2
    exact scan_no fun q => by rw [Sep.cut_none h2] at q; exact absurd (show false = true from q.1) (by decide)
  · omega
theorem piece_iff {s : Bytes} {a : Int} (h : FirstAt s 0 a) (h0 : ¬ a < 0) (n : Nat) : pieceS (List.take a.toNat s, (n : Int)) = s ↔ laysN n = List.drop (a.toNat + 1) s := by
  have hc := first_cut h h0
  have hs := (Sep.cut_some (c := 58) (s := s) (by rw [hc])).1
  rw [hc] at hs
  unfold pieceS layS
  simp only [Int.toNat_natCast] at hs ⊢
  constructor
  · intro e
    have e2 := e.trans hs
    rw [List.append_assoc] at e2
    have e3 := List.append_cancel_left e2
    injection e3
  · intro e
    rw [e, List.append_assoc]
    exact hs.symm
theorem scan_hit {s : Bytes} {a : Int} (h : FirstAt s 0 a) (h0 : ¬ a < 0) {n : Nat} (hn : n < 64) (he : pieceS (List.take a.toNat s, (n : Int)) = s) : scanP s = ((List.take a.toNat s, (n : Int)), true) := by
  have hc := first_cut h h0
  have hr := capsR_ok hn ((piece_iff h h0 n).1 he)
  rw [scan_ok (by rw [hc]) (by rw [hc]; show (capsR (List.drop (a.toNat + 1) s)).2 = true; rw [hr]), hc]
  show ((List.take a.toNat s, (capsR (List.drop (a.toNat + 1) s)).1), true) = _
  rw [hr]
theorem scan_end {s : Bytes} {a : Int} (h : FirstAt s 0 a) (h0 : ¬ a < 0) (hN : ∀ n : Nat, n < 64 → ¬ pieceS (List.take a.toNat s, (n : Int)) = s) : scanP s = (([], 0), false) := by
  have hc := first_cut h h0
  refine scan_no fun q => ?_
  rw [hc] at q
  obtain ⟨n, h1, h2, _⟩ := capsR_yes q.2
  exact hN n h1 ((piece_iff h h0 n).2 h2)
abbrev AskV := Bytes × Int
end AL.Policy
namespace AL.Ask
open Go AL
open AL.Sep (splitC joinC)
open AL.Policy (RuleV)
set_option linter.unusedVariables false
set_option linter.unusedSimpArgs false
def dg (k : Int) : UInt8 := UInt8.ofNat (48 + k.toNat)
def numS (n : Int) : Bytes := if n < 10 then [dg n] else if n < 100 then [dg (n / 10), dg (n % 10)] else [dg (n / 100), dg (n / 10 % 10), dg (n % 10)]
def digB (b : UInt8) : Bool := decide (48 ≤ b.toNat) && decide (b.toNat ≤ 57)
theorem digB_iff {b : UInt8} : digB b = true ↔ 48 ≤ b.toNat ∧ b.toNat ≤ 57 := by unfold digB; simp only [Bool.and_eq_true, decide_eq_true_eq]
def valS (s : Bytes) : Int := s.foldl (fun n b => 10 * n + ((b.toNat : Int) - 48)) 0
def sizeB (s : Bytes) : Bool := !(decide (s = []) || (decide (3 < s.length) || (decide (1 < s.length) && decide (List.getD s 0 0 = 48))))
def scanN (s : Bytes) : Int := if sizeB s = true ∧ s.all digB = true then valS s else -1
theorem num_big : ∀ n : Nat, n < 1000 → numS (n : Int) ≠ [] ∧ (numS (n : Int)).length ≤ 3 ∧ sizeB (numS (n : Int)) = true ∧ (numS (n : Int)).all digB = true ∧ valS (numS (n : Int)) = (n : Int) := by decide +kernel
theorem num_one : ∀ a, a < 10 → numS (valS [UInt8.ofNat (48 + a)]) = [UInt8.ofNat (48 + a)] ∧ valS [UInt8.ofNat (48 + a)] = (a : Int) := by decide +kernel
theorem num_two : ∀ a, a < 10 → ∀ b, b < 10 → valS [UInt8.ofNat (48 + a), UInt8.ofNat (48 + b)] = (10 * a + b : Nat) ∧ (a ≠ 0 → numS ((10 * a + b : Nat) : Int) = [UInt8.ofNat (48 + a), UInt8.ofNat (48 + b)]) := by decide +kernel
theorem num_three : ∀ a, a < 10 → ∀ b, b < 10 → ∀ c, c < 10 → valS [UInt8.ofNat (48 + a), UInt8.ofNat (48 + b), UInt8.ofNat (48 + c)] = (100 * a + 10 * b + c : Nat) ∧ (a ≠ 0 → numS ((100 * a + 10 * b + c : Nat) : Int) = [UInt8.ofNat (48 + a), UInt8.ofNat (48 + b), UInt8.ofNat (48 + c)]) := by decide +kernel
theorem dig_of {b : UInt8} (h : digB b = true) : ∃ a, a < 10 ∧ b = UInt8.ofNat (48 + a) := by
  have h := digB_iff.1 h
  refine ⟨b.toNat - 48, by omega, ?_⟩
  rw [show 48 + (b.toNat - 48) = b.toNat by omega]
  exact (UInt8.ofNat_toNat).symm
theorem num_len {n : Int} (h0 : 0 ≤ n) (h1 : n ≤ 999) : numS n ≠ [] ∧ (numS n).length ≤ 3 ∧ (numS n).all digB = true := by
  obtain ⟨m, rfl⟩ := Int.eq_ofNat_of_zero_le h0
  obtain ⟨h1, h2, _, h4, _⟩ := num_big m (by omega)
  exact ⟨h1, h2, h4⟩
theorem num_le3 (n : Int) : (numS n).length ≤ 3 := by
  unfold numS
  split
  · simp
  · split <;> simp
theorem num_scan {s : Bytes} (h : 0 ≤ scanN s) : numS (scanN s) = s ∧ scanN s ≤ 999 ∧ s.length ≤ 3 := by
  unfold scanN at *
  split at h
  · rename_i q
    rw [if_pos q]
    obtain ⟨q1, q2⟩ := q
    have q3 : ¬ s = [] ∧ s.length ≤ 3 ∧ (1 < s.length → ¬ List.getD s 0 0 = 48) := by
      unfold sizeB at q1
      simp only [Bool.not_eq_true', Bool.or_eq_false_iff, Bool.and_eq_false_iff, decide_eq_false_iff_not] at q1
      refine ⟨q1.1, by omega, fun h2 => ?_⟩
      rcases q1.2.2 with z | z
      · omega
      · exact z
    obtain ⟨q4, q5, q6⟩ := q3
    match s, q4, q5, q6, q2 with
    | [a], _, _, _, q2 =>
      simp only [List.all_cons, List.all_nil, Bool.and_true] at q2
      obtain ⟨x, hx, rfl⟩ := dig_of q2
      have := num_one x hx
      exact ⟨this.1, by rw [this.2]; omega, by simp⟩
    | [a, b], _, _, q6, q2 =>
      simp only [List.all_cons, List.all_nil, Bool.and_true, Bool.and_eq_true] at q2
      obtain ⟨x, hx, rfl⟩ := dig_of q2.1
      obtain ⟨y, hy, rfl⟩ := dig_of q2.2
      have := num_two x hx y hy
      rw [this.1]
      refine ⟨this.2 fun e => q6 (by simp) (by subst e; rfl), by omega, by simp⟩
    | [a, b, c], _, _, q6, q2 =>
      simp only [List.all_cons, List.all_nil, Bool.and_true, Bool.and_eq_true] at q2
      obtain ⟨x, hx, rfl⟩ := dig_of q2.1
      obtain ⟨y, hy, rfl⟩ := dig_of q2.2.1
      obtain ⟨z, hz, rfl⟩ := dig_of q2.2.2
      have := num_three x hx y hy z hz
      rw [this.1]
      refine ⟨this.2 fun e => q6 (by simp) (by subst e; rfl), by omega, by simp⟩
  · omega
theorem val_step (s : Bytes) (k : Nat) (h : k < s.length) : valS (List.take (k + 1) s) = 10 * valS (List.take k s) + (((List.getD s k 0).toNat : Int) - 48) := by
  rw [Lib.take_succ 0 s k h]
  unfold valS
  rw [List.foldl_append]; rfl
theorem val_rng (s : Bytes) : ∀ k, k ≤ 3 → k ≤ s.length → (List.take k s).all digB = true → 0 ≤ valS (List.take k s) ∧ valS (List.take k s) ≤ 10 ^ k - 1 := by
  intro k
  induction k with
  | zero => intro _ _ _; rw [List.take_zero]; exact ⟨Int.le_refl _, by decide⟩
  | succ k ih =>
    intro h3 hk ha
    rw [Lib.take_succ 0 s k (by omega), List.all_append, Bool.and_eq_true] at ha
    have hd := digB_iff.1 (show digB (List.getD s k 0) = true by
      have q := ha.2
      simp only [List.all_cons, List.all_nil, Bool.and_true] at q
      exact q)
    have := ih (by omega) (by omega) ha.1
    rw [val_step s k (by omega), Int.pow_succ]
    omega
def NumAt (n m : Int) (s : Bytes) : Prop := numS n = (if m = 0 then [] else numS m) ++ s
theorem numat_step : ∀ m : Nat, m < 100 → m ≠ 0 → numS (m : Int) = (if (m : Int) / 10 = 0 then [] else numS ((m : Int) / 10)) ++ [dg ((m : Int) % 10)] := by decide +kernel
theorem numat_first : ∀ n : Nat, n < 1000 → numS (n : Int) = (if (n : Int) / 10 = 0 then [] else numS ((n : Int) / 10)) ++ [dg ((n : Int) % 10)] := by decide +kernel
theorem NumAt.first {n : Int} (h0 : 0 ≤ n) (h1 : n ≤ 999) : NumAt n (n / 10) [dg (n % 10)] := by
  obtain ⟨m, rfl⟩ := Int.eq_ofNat_of_zero_le h0
  exact numat_first m (by omega)
theorem NumAt.step {n m : Int} {s : Bytes} (h : NumAt n m s) (h0 : 0 < m) (h1 : m ≤ 99) : NumAt n (m / 10) ([dg (m % 10)] ++ s) := by
  obtain ⟨k, rfl⟩ := Int.eq_ofNat_of_zero_le (Int.le_of_lt h0)
  unfold NumAt at *
  rw [h, if_neg (by omega), numat_step k (by omega) (by omega), List.append_assoc]
theorem NumAt.last {n m : Int} {s : Bytes} (h : NumAt n m s) (h0 : ¬ 0 < m) (h1 : 0 ≤ m) : s = numS n := by
  unfold NumAt at h
  rw [h, if_pos (by omega)]; rfl
def hexD : Bytes := [48, 49, 50, 51, 52, 53, 54, 55, 56, 57, 97, 98, 99, 100, 101, 102]
def hexB (b : UInt8) : Bytes := [List.getD hexD (b.toNat / 16) 0, List.getD hexD (b.toNat % 16) 0]
def hexS (s : Bytes) : Bytes := s.flatMap hexB
def isH (b : UInt8) : Bool := (decide (48 ≤ b.toNat) && decide (b.toNat ≤ 57)) || (decide (97 ≤ b.toNat) && decide (b.toNat ≤ 102))
def digV (b : UInt8) : Int := if 48 ≤ b.toNat ∧ b.toNat ≤ 57 then (b.toNat : Int) - 48 else if 97 ≤ b.toNat ∧ b.toNat ≤ 102 then (b.toNat : Int) - 97 + 10 else -1
def pairB (a b : UInt8) : UInt8 := UInt8.ofNat (16 * digV a + digV b).toNat
def unpairs : Bytes → Bytes
  | a :: b :: r => pairB a b :: unpairs r
  | _ => []
def unhexS (s : Bytes) : Bytes × Bool := if s.length % 2 = 0 ∧ s.all isH = true then (unpairs s, true) else ([], false)
theorem dig_is (b : UInt8) : isH b = true ↔ 0 ≤ digV b := by
  unfold isH digV
  simp only [Bool.or_eq_true, Bool.and_eq_true, decide_eq_true_eq]
  constructor
  · rintro (h | h)
    · rw [if_pos h]; omega
    · split
      · omega
      · first
        | omega
        | (rw [if_pos h]; omega)
  · intro h
    split at h
    · rename_i q; exact .inl q
    · split at h
      · rename_i q; exact .inr q
      · omega
theorem dig_rng (b : UInt8) : -1 ≤ digV b ∧ digV b ≤ 15 := by
  unfold digV
  split
  · omega
  · split <;> omega
theorem hex_len (s : Bytes) : (hexS s).length = 2 * s.length := by
  induction s with
  | nil => rfl
  | cons b s ih => unfold hexS at *; rw [List.flatMap_cons, List.length_append, ih]; simp only [hexB, List.length_cons, List.length_nil]; omega
theorem hex_step (s : Bytes) (k : Nat) (h : k < s.length) : hexS (List.take k s) ++ hexB (List.getD s k 0) = hexS (List.take (k + 1) s) := by
  rw [Lib.take_succ 0 s k h]
  unfold hexS
  rw [List.flatMap_append, List.flatMap_cons, List.flatMap_nil, List.append_nil]
theorem hex_pair : ∀ n, n < 256 → pairB (List.getD hexD (n / 16) 0) (List.getD hexD (n % 16) 0) = UInt8.ofNat n ∧ isH (List.getD hexD (n / 16) 0) = true ∧ isH (List.getD hexD (n % 16) 0) = true := by decide +kernel
theorem hex_all (s : Bytes) : (hexS s).all isH = true := by
  induction s with
  | nil => rfl
  | cons b s ih =>
    unfold hexS at *
    have := hex_pair b.toNat b.toNat_lt
    rw [List.flatMap_cons, List.all_append, ih]
    simp only [hexB, List.all_cons, List.all_nil, this.2.1, this.2.2, Bool.and_true]
theorem pair_hex : ∀ a, a < 256 → isH (UInt8.ofNat a) = true → ∀ b, b < 256 → isH (UInt8.ofNat b) = true → hexB (pairB (UInt8.ofNat a) (UInt8.ofNat b)) = [UInt8.ofNat a, UInt8.ofNat b] := by
  have key : ∀ a ∈ hexD, ∀ b ∈ hexD, hexB (pairB a b) = [a, b] := by decide +kernel
  have mem : ∀ a, a < 256 → isH (UInt8.ofNat a) = true → UInt8.ofNat a ∈ hexD := by decide +kernel
  intro a ha h b hb h2
  exact key _ (mem a ha h) _ (mem b hb h2)
theorem hex_un : ∀ (n : Nat) (s : Bytes), s.length = 2 * n → s.all isH = true → hexS (unpairs s) = s
  | 0, s, h, _ => by rw [List.eq_nil_of_length_eq_zero (by omega : s.length = 0)]; rfl
  | n + 1, a :: b :: r, h, ha => by
    simp only [List.all_cons, Bool.and_eq_true] at ha
    have h1 := hex_un n r (by simp only [List.length_cons] at h; omega) ha.2.2
    have h2 := pair_hex a.toNat a.toNat_lt (by rw [UInt8.ofNat_toNat]; exact ha.1) b.toNat b.toNat_lt (by rw [UInt8.ofNat_toNat]; exact ha.2.1)
    rw [UInt8.ofNat_toNat, UInt8.ofNat_toNat] at h2
    show hexB (pairB a b) ++ hexS (unpairs r) = _
    rw [h1, h2]; rfl
  | n + 1, [], h, _ => by simp at h
  | n + 1, [a], h, _ => by simp only [List.length_cons, List.length_nil] at h; omega
theorem hex_unhex {s : Bytes} (h : (unhexS s).2 = true) : hexS (unhexS s).1 = s := by
  unfold unhexS at *
  split at h
  · rename_i q
    rw [if_pos q]
    exact hex_un (s.length / 2) s (by omega) q.2
  · cases h
theorem un_len : ∀ (s : Bytes), (unpairs s).length ≤ s.length
  | [] => Nat.le_refl _
  | [a] => Nat.zero_le _
  | a :: b :: r => by
    have := un_len r
    show (pairB a b :: unpairs r).length ≤ _
    simp only [List.length_cons]; omega
theorem un_step : ∀ (k : Nat) (s : Bytes), 2 * k + 1 < s.length → unpairs (List.take (2 * k) s) ++ [pairB (List.getD s (2 * k) 0) (List.getD s (2 * k + 1) 0)] = unpairs (List.take (2 * (k + 1)) s)
  | 0, a :: b :: r, _ => rfl
  | k + 1, a :: b :: r, h => by
    have ih := un_step k r (by simp only [List.length_cons] at h; omega)
    rw [show 2 * (k + 1) = 2 * k + 2 by omega, show 2 * (k + 1 + 1) = 2 * (k + 1) + 2 by omega]
    show pairB a b :: unpairs (List.take (2 * k) r) ++ [pairB (List.getD r (2 * k) 0) (List.getD r (2 * k + 1) 0)] = pairB a b :: unpairs (List.take (2 * (k + 1)) r)
    rw [← ih]; rfl
  | _, [], h => by simp at h
  | _, [a], h => by simp only [List.length_cons, List.length_nil] at h; omega
def HexTo (s : Bytes) (k : Nat) : Prop := (List.take (2 * k) s).all isH = true
theorem hexto_step {s : Bytes} {k : Nat} (h : 2 * k + 1 < s.length) (hN : HexTo s k) (h1 : ¬ digV (List.getD s (2 * k) 0) < 0) (h2 : ¬ digV (List.getD s (2 * k + 1) 0) < 0) : HexTo s (k + 1) := by
  unfold HexTo at *
  rw [show 2 * (k + 1) = 2 * k + 1 + 1 by omega, Lib.take_succ 0 s _ (by omega), Lib.take_succ 0 s _ (by omega), List.all_append, List.all_append, hN]
  simp only [List.all_cons, List.all_nil, Bool.and_true, Bool.true_and, Bool.and_eq_true]
  exact ⟨(dig_is _).2 (by omega), (dig_is _).2 (by omega)⟩
theorem unhex_bad {s : Bytes} {k : Nat} (h : k < s.length) (h1 : digV (List.getD s k 0) < 0) : unhexS s = ([], false) := by
  refine if_neg fun q => ?_
  have := (dig_is _).1 (List.all_eq_true.1 q.2 _ (Lib.getD_mem 0 s k h))
  omega
theorem unhex_odd {s : Bytes} (h : ¬ s.length % 2 = 0) : unhexS s = ([], false) := if_neg fun q => h q.1
theorem unhex_end {s : Bytes} {k : Nat} (h : s.length = 2 * k) (hN : HexTo s k) : unhexS s = (unpairs (List.take (2 * k) s), true) := by
  unfold HexTo at hN
  rw [List.take_of_length_le (by omega)] at *
  exact if_pos ⟨by omega, hN⟩
theorem ref_unhex {s t : Bytes} (h : s.length % 2 = 0 → s.all isH = true → t = unpairs s) : unhexS s = if ¬ hexS t = s then ([], false) else (t, true) := by
  by_cases q : s.length % 2 = 0 ∧ s.all isH = true
  · have e := h q.1 q.2
    have h1 : (unhexS s).2 = true := by unfold unhexS; rw [if_pos q]
    have h2 := hex_unhex h1
    have h3 : unhexS s = (unpairs s, true) := if_pos q
    rw [h3] at h2 ⊢
    rw [if_neg (by rw [e]; exact fun z => z h2), e]
  · have h3 : unhexS s = ([], false) := if_neg q
    rw [h3, if_pos]
    intro e
    refine q ⟨?_, ?_⟩
    · rw [← e, hex_len]; omega
    · rw [← e]; exact hex_all t
end AL.Ask
namespace AL.Ask
open Go AL
open AL.Sep (splitC joinC)
open AL.Policy (RuleV textP parseP checkP)
open AL.Rows (namedS)
set_option linter.unusedVariables false
set_option linter.unusedSimpArgs false
structure AskV where
  op : Int
  token : Bytes
  path : Bytes
  other : Bytes
  n : Int
  cas : Int
  flag : Bool
  ns : List Int
  data : Bytes
  rules : List RuleV
  key : Bytes
theorem AskV.eq_iff (a b : AskV) : a = b ↔ a.op = b.op ∧ a.token = b.token ∧ a.path = b.path ∧ a.other = b.other ∧ a.n = b.n ∧ a.cas = b.cas ∧ a.flag = b.flag ∧ a.ns = b.ns ∧ a.data = b.data ∧ a.rules = b.rules ∧ a.key = b.key := by
  constructor
  · intro h; subst h; simp
  · intro h; cases a; cases b; simp_all
instance : DecidableEq AskV := fun a b => decidable_of_iff _ (AskV.eq_iff a b).symm
def askd : AskV := ⟨0, [], [], [], 0, 0, false, [], [], [], []⟩
abbrev rwA (a : AskV) : List AC := [.s (u8 a.op), .s (st a.token), .s (st a.path), .s (st a.other), .s (i6 a.n), .s (i6 a.cas), .s (bo a.flag), .s (Fnv.slI a.ns), .s (st a.data), .s (Policy.slP a.rules), .s (st a.key)]
def wordsL : List Bytes := [[], [115, 116, 97, 116, 117, 115], [117, 110, 115, 101, 97, 108], [115, 101, 97, 108], [114, 111, 116, 97, 116, 101], [109, 111, 117, 110, 116], [117, 110, 109, 111, 117, 110, 116], [109, 97, 107, 101], [114, 101, 118, 111, 107, 101], [114, 101, 97, 100], [119, 114, 105, 116, 101], [100, 101, 108, 101, 116, 101], [117, 110, 100, 101, 108, 101, 116, 101], [100, 101, 115, 116, 114, 111, 121], [109, 101, 116, 97], [99, 111, 110, 102, 105, 103], [112, 117, 114, 103, 101], [108, 105, 115, 116], [99, 111, 112, 121]]
def kindsL : List Bytes := [[], [], [107], [116], [116], [116, 112, 110, 102], [116, 112], [116, 109, 114], [116, 109], [116, 112, 110], [116, 112, 99, 100], [116, 112, 108], [116, 112, 108], [116, 112, 108], [116, 112], [116, 112, 110, 102], [116, 112], [116, 112], [116, 112, 113]]
def wordS (op : Int) : Bytes := List.getD wordsL op.toNat []
def kindS (op : Int) : Bytes := List.getD kindsL op.toNat []
theorem getD_in {l : List Bytes} {i : Nat} (h : List.getD l i [] ≠ []) : List.getD l i [] ∈ l := by
  rcases Nat.lt_or_ge i l.length with q | q
  · exact Lib.getD_mem [] l i q
  · rw [List.getD_eq_getElem?_getD, List.getElem?_eq_none q] at h; exact absurd rfl h
def LetI (c : Int) : Prop := c = 116 ∨ c = 112 ∨ c = 109 ∨ c = 113 ∨ c = 110 ∨ c = 99 ∨ c = 102 ∨ c = 108 ∨ c = 100 ∨ c = 114 ∨ c = 107
instance (c : Int) : Decidable (LetI c) := inferInstanceAs (Decidable (_ ∨ _))
def Apart (c d : Int) : Prop := c ≠ d ∧ ¬ (c = 109 ∧ d = 113) ∧ ¬ (c = 113 ∧ d = 109)
instance (c d : Int) : Decidable (Apart c d) := inferInstanceAs (Decidable (_ ∧ _))
theorem kinds_let : ∀ l ∈ kindsL, (∀ b ∈ l, LetI (b.toNat : Int)) ∧ l.Pairwise fun b d => Apart (b.toNat : Int) (d.toNat : Int) := by decide +kernel
theorem kind_let (op : Int) : (∀ b ∈ kindS op, LetI (b.toNat : Int)) ∧ (kindS op).Pairwise fun b d => Apart (b.toNat : Int) (d.toNat : Int) := by
  by_cases h : kindS op = []
  · rw [h]; exact ⟨fun b hb => (by cases hb), List.Pairwise.nil⟩
  · exact kinds_let _ (getD_in h)
theorem let_low {b : UInt8} (h : LetI (b.toNat : Int)) : b.toNat < 128 := by unfold LetI at h; omega
theorem kind_dec (op : Int) {pos : Nat} (h : pos < (kindS op).length) : decS (kindS op) pos = ((List.getD (kindS op) pos 0).toNat, 1) :=
  Policy.dec_low h (let_low ((kind_let op).1 _ (Lib.getD_mem 0 _ pos h)))
theorem words_len : wordsL.length = 19 ∧ kindsL.length = 19 := by decide
theorem word_out {op : Int} (h : 19 ≤ op) : wordS op = [] ∧ kindS op = [] := by
  unfold wordS kindS
  rw [List.getD_eq_getElem?_getD, List.getD_eq_getElem?_getD, List.getElem?_eq_none (by rw [words_len.1]; omega), List.getElem?_eq_none (by rw [words_len.2]; omega)]
  exact ⟨rfl, rfl⟩
theorem word_nil {op : Int} : wordS op = [] ↔ op < 1 ∨ 18 < op := by
  constructor
  · intro h
    apply Classical.byContradiction
    intro hn
    have key : ∀ i, i < 19 → 1 ≤ i → List.getD wordsL i [] ≠ [] := by decide
    exact key op.toNat (by omega) (by omega) h
  · rintro (h | h)
    · unfold wordS; rw [show op.toNat = 0 by omega]; rfl
    · exact (word_out (by omega)).1
def opS (w : Bytes) : Int := match (List.range 18).find? (fun i => decide (List.getD wordsL (i + 1) [] = w)) with
  | some i => (i : Int) + 1
  | none => 0
theorem op_some {w : Bytes} {k : Nat} (h1 : 1 ≤ k) (h2 : k ≤ 18) (h : List.getD wordsL k [] = w) : opS w = k := by
  have key : ∀ i, i < 18 → ∀ j, j < 18 → List.getD wordsL (i + 1) [] = List.getD wordsL (j + 1) [] → i = j := by decide
  unfold opS
  cases hf : (List.range 18).find? (fun i => decide (List.getD wordsL (i + 1) [] = w)) with
  | none =>
    rw [List.find?_eq_none] at hf
    exact absurd (decide_eq_true (by rw [show k - 1 + 1 = k by omega]; exact h)) (hf (k - 1) (List.mem_range.2 (by omega)))
  | some i =>
    have e0 := List.find?_some hf
    have e1 := of_decide_eq_true e0
    have e2 := List.mem_range.1 (List.mem_of_find?_eq_some hf)
    have := key i e2 (k - 1) (by omega) (by rw [e1, ← h, show k - 1 + 1 = k by omega])
    show (i : Int) + 1 = k
    omega
theorem op_none {w : Bytes} (h : ∀ k, 1 ≤ k → k ≤ 18 → ¬ List.getD wordsL k [] = w) : opS w = 0 := by
  unfold opS
  cases hf : (List.range 18).find? (fun i => decide (List.getD wordsL (i + 1) [] = w)) with
  | none => rfl
  | some i =>
    have e0 := List.find?_some hf
    have e1 := of_decide_eq_true e0
    have e2 := List.mem_range.1 (List.mem_of_find?_eq_some hf)
    exact absurd e1 (h (i + 1) (by omega) (by omega))
theorem op_rng (w : Bytes) : opS w = 0 ∨ (1 ≤ opS w ∧ opS w ≤ 18 ∧ wordS (opS w) = w) := by
  by_cases h : ∃ k, 1 ≤ k ∧ k ≤ 18 ∧ List.getD wordsL k [] = w
  · obtain ⟨k, h1, h2, h3⟩ := h
    right
    rw [op_some h1 h2 h3]
    exact ⟨by omega, by omega, h3⟩
  · left
    exact op_none fun k h1 h2 h3 => h ⟨k, h1, h2, h3⟩
def fineS (b : Bool) : Int := if b = true then 0 else 4
theorem fine_0 {b : Bool} : fineS b = 0 ↔ b = true := by unfold fineS; cases b <;> simp
def withinI (n lo hi : Int) : Bool := decide (lo ≤ n) && decide (n ≤ hi)
def okNs (l : List Int) : Bool := decide (l.length ≤ 6) && l.all fun n => withinI n 1 999
def fieldS (a : AskV) (c : Int) : Int :=
  if c = 116 then fineS (namedS a.token) else if c = 109 then fineS (namedS a.other) else if c = 112 then Route.checkS a.path else if c = 113 then Route.checkS a.other else if c = 110 then fineS (withinI a.n 0 999) else
  if c = 99 then fineS (withinI a.cas (-1) 999) else if c = 108 then fineS (okNs a.ns) else if c = 114 then checkP a.rules else if c = 107 then fineS (decide (a.key.length = 16)) else 0
def withoutS (a : AskV) (c : Int) : AskV :=
  if c = 116 then { a with token := [] } else if c = 112 then { a with path := [] } else if c = 109 ∨ c = 113 then { a with other := [] } else if c = 110 then { a with n := 0 } else if c = 99 then { a with cas := 0 } else
  if c = 102 then { a with flag := false } else if c = 108 then { a with ns := [] } else if c = 100 then { a with data := [] } else if c = 114 then { a with rules := [] } else if c = 107 then { a with key := [] } else a
def setA (b a : AskV) (c : Int) : AskV :=
  if c = 116 then { b with token := a.token } else if c = 112 then { b with path := a.path } else if c = 109 ∨ c = 113 then { b with other := a.other } else if c = 110 then { b with n := a.n } else if c = 99 then { b with cas := a.cas } else
  if c = 102 then { b with flag := a.flag } else if c = 108 then { b with ns := a.ns } else if c = 100 then { b with data := a.data } else if c = 114 then { b with rules := a.rules } else if c = 107 then { b with key := a.key } else b
def orN (s : Bytes) : Bytes := if s = [] then [45] else s
def listS (l : List Int) : Bytes := joinC 44 (l.map numS)
def layA (a : AskV) (c : Int) : Bytes :=
  if c = 116 then a.token else if c = 112 then a.path else if c = 109 ∨ c = 113 then a.other else if c = 110 then numS a.n else if c = 99 then (if a.cas = -1 then [45] else numS a.cas) else
  if c = 102 then (if a.flag = true then [49] else [48]) else if c = 108 then orN (listS a.ns) else if c = 100 then orN (hexS a.data) else if c = 114 then orN (textP a.rules).1 else hexS a.key
def numbersS (s : Bytes) : List Int := (splitC 44 s).map scanN
def readA (a : AskV) (c : Int) (s : Bytes) : AskV × Int :=
  if c = 116 then ({ a with token := s }, fineS (namedS s)) else if c = 112 then ({ a with path := s }, Route.checkS s) else if c = 109 then ({ a with other := s }, fineS (namedS s)) else if c = 113 then ({ a with other := s }, Route.checkS s) else
  if c = 110 then ({ a with n := scanN s }, fineS (withinI (scanN s) 0 999)) else if c = 99 then (if s = [45] then ({ a with cas := -1 }, 0) else ({ a with cas := scanN s }, fineS (decide (0 ≤ scanN s)))) else
  if c = 102 then ({ a with flag := decide (s = [49]) }, fineS (decide (s = [49]) || decide (s = [48]))) else if c = 108 then (if s = [45] then (a, fineS (okNs a.ns)) else ({ a with ns := numbersS s }, fineS (okNs (numbersS s)))) else
  if c = 100 then (if s = [45] then (a, 0) else ({ a with data := (unhexS s).1 }, fineS ((unhexS s).2 && !decide (s = [])))) else if c = 114 then (if s = [45] then (a, 0) else if s = [] then (a, 4) else ({ a with rules := (parseP s).1 }, (parseP s).2)) else
  if c = 107 then ({ a with key := (unhexS s).1 }, fineS ((unhexS s).2 && decide ((unhexS s).1.length = 16))) else (a, 0)
theorem without_set (a x : AskV) {c d : Int} (h : LetI c) (h2 : LetI d) (h3 : Apart c d) : withoutS (setA x a d) c = setA (withoutS x c) a d := by
  unfold Apart at h3
  rcases h with h | h | h | h | h | h | h | h | h | h | h <;> subst h <;> (rcases h2 with h2 | h2 | h2 | h2 | h2 | h2 | h2 | h2 | h2 | h2 | h2 <;> subst h2 <;> first | rfl | (exfalso; simp at h3; done))
theorem without_apart (a x : AskV) {c d : Int} (h : LetI c) (h2 : LetI d) (h3 : Apart c d) (hz : withoutS x c = x) : withoutS (setA x a d) c = setA x a d := by
  rw [without_set a x h h2 h3, hz]
end AL.Ask
namespace AL.Ask
open Go AL
open AL.Sep (splitC joinC)
open AL.Policy (RuleV textP parseP checkP)
open AL.Rows (namedS)
set_option linter.unusedVariables false
set_option linter.unusedSimpArgs false
theorem ns_mem {l : List Int} (h : okNs l = true) : l.length ≤ 6 ∧ ∀ n ∈ l, 1 ≤ n ∧ n ≤ 999 := by
  unfold okNs withinI at h
  simp only [Bool.and_eq_true, decide_eq_true_eq, List.all_eq_true] at h
  exact h
theorem list_nil {l : List Int} (h : okNs l = true) : listS l = [] ↔ l = [] := by
  constructor
  · intro e
    cases l with
    | nil => rfl
    | cons n l =>
      have hn := (ns_mem h).2 n (by simp)
      have := (num_len (n := n) (by omega) (by omega)).1
      cases l with
      | nil => exact absurd e this
      | cons k l =>
        have e : numS n ++ 44 :: joinC 44 ((k :: l).map numS) = [] := e
        simp at e
  · intro e; subst e; rfl
theorem list_numbers {s : Bytes} (h : okNs (numbersS s) = true) : listS (numbersS s) = s := by
  have hm := (ns_mem h).2
  unfold listS
  have : (numbersS s).map numS = splitC 44 s := by
    unfold numbersS at *
    rw [List.map_map]
    conv => rhs; rw [← List.map_id (splitC 44 s)]
    refine List.map_congr_left fun p hp => ?_
    have := hm (scanN p) (List.mem_map_of_mem hp)
    exact (num_scan (by omega)).1
  rw [this, Sep.join_split]
theorem lay_read {b : AskV} {c : Int} {w : Bytes} (h : LetI c) (hz : withoutS b c = b) (hr : (readA b c w).2 = 0) : layA (readA b c w).1 c = w ∧ fieldS (readA b c w).1 c = 0 ∧ setA b (readA b c w).1 c = (readA b c w).1 ∧ ((∀ x ∈ b.rules, 0 ≤ x.2) → ∀ x ∈ (readA b c w).1.rules, 0 ≤ x.2) := by
  rcases h with h | h | h | h | h | h | h | h | h | h | h <;> subst h
  · exact ⟨rfl, hr, rfl, fun q => q⟩
  · exact ⟨rfl, hr, rfl, fun q => q⟩
  · exact ⟨rfl, hr, rfl, fun q => q⟩
  · exact ⟨rfl, hr, rfl, fun q => q⟩
  · have hw := fine_0.1 (show fineS (withinI (scanN w) 0 999) = 0 from hr)
    unfold withinI at hw
    simp only [Bool.and_eq_true, decide_eq_true_eq] at hw
    exact ⟨(num_scan hw.1).1, hr, rfl, fun q => q⟩
  · by_cases e : w = [45]
    · subst e
      exact ⟨rfl, rfl, rfl, fun q => q⟩
    · have e2 : readA b 99 w = ({ b with cas := scanN w }, fineS (decide (0 ≤ scanN w))) := if_neg e
      rw [e2] at hr ⊢
      have hw := of_decide_eq_true (fine_0.1 hr)
      have hs := num_scan hw
      refine ⟨?_, ?_, rfl, fun q => q⟩
      · show (if scanN w = -1 then _ else numS (scanN w)) = w
        rw [if_neg (by omega)]; exact hs.1
      · show fineS (withinI (scanN w) (-1) 999) = 0
        refine fine_0.2 ?_
        unfold withinI
        rw [decide_eq_true (by omega), decide_eq_true (by omega)]; rfl
  · have hw := fine_0.1 (show fineS (decide (w = [49]) || decide (w = [48])) = 0 from hr)
    simp only [Bool.or_eq_true, decide_eq_true_eq] at hw
    rcases hw with e | e <;> subst e <;> exact ⟨rfl, rfl, rfl, fun q => q⟩
  · have hb : b.ns = [] := congrArg AskV.ns hz.symm
    by_cases e : w = [45]
    · subst e
      refine ⟨?_, ?_, rfl, fun q => q⟩
      · show orN (listS b.ns) = [45]
        rw [hb]; rfl
      · show fineS (okNs b.ns) = 0
        rw [hb]; rfl
    · have e2 : readA b 108 w = ({ b with ns := numbersS w }, fineS (okNs (numbersS w))) := if_neg e
      rw [e2] at hr ⊢
      have hw := fine_0.1 hr
      refine ⟨?_, hr, rfl, fun q => q⟩
      show orN (listS (numbersS w)) = w
      have h1 : numbersS w ≠ [] := by
        unfold numbersS
        intro q
        exact Sep.split_ne 44 w (List.map_eq_nil_iff.1 q)
      have h2 : ¬ listS (numbersS w) = [] := fun q => h1 ((list_nil hw).1 q)
      rw [show orN (listS (numbersS w)) = listS (numbersS w) from if_neg h2]
      exact list_numbers hw
  · have hb : b.data = [] := congrArg AskV.data hz.symm
    by_cases e : w = [45]
    · subst e
      refine ⟨?_, rfl, rfl, fun q => q⟩
      show orN (hexS b.data) = [45]
      rw [hb]; rfl
    · have e2 : readA b 100 w = ({ b with data := (unhexS w).1 }, fineS ((unhexS w).2 && !decide (w = []))) := if_neg e
      rw [e2] at hr ⊢
      have hw := fine_0.1 hr
      simp only [Bool.and_eq_true, Bool.not_eq_true', decide_eq_false_iff_not] at hw
      refine ⟨?_, rfl, rfl, fun q => q⟩
      show orN (hexS (unhexS w).1) = w
      rw [hex_unhex hw.1]
      exact if_neg hw.2
  · have hb : b.rules = [] := congrArg AskV.rules hz.symm
    by_cases e : w = [45]
    · subst e
      refine ⟨?_, ?_, rfl, fun q => q⟩
      · show orN (textP b.rules).1 = [45]
        rw [hb]; rfl
      · show checkP b.rules = 0
        rw [hb]; rfl
    · by_cases e0 : w = []
      · subst e0; exact absurd (show (4 : Int) = 0 from hr) (by decide)
      · have e2 : readA b 114 w = ({ b with rules := (parseP w).1 }, (parseP w).2) := by
          show (if w = [45] then _ else if w = [] then _ else _) = _
          rw [if_neg e, if_neg e0]
        rw [e2] at hr ⊢
        obtain ⟨h1, h2, h3⟩ := Policy.text_parse (s := w) hr
        refine ⟨?_, h2, rfl, fun _ => h3⟩
        show orN (textP (parseP w).1).1 = w
        rw [h1]
        exact if_neg e0
  · have hw := fine_0.1 (show fineS ((unhexS w).2 && decide ((unhexS w).1.length = 16)) = 0 from hr)
    simp only [Bool.and_eq_true] at hw
    refine ⟨hex_unhex hw.1, ?_, rfl, fun q => q⟩
    show fineS (decide ((unhexS w).1.length = 16)) = 0
    rw [hw.2]; rfl
end AL.Ask
namespace AL.Ask
open Go AL
open AL.Sep (splitC joinC)
open AL.Policy (RuleV textP parseP checkP)
open AL.Rows (namedS)
set_option linter.unusedVariables false
set_option linter.unusedSimpArgs false
def fieldsC (a : AskV) : Bytes → Int
  | [] => 0
  | c :: l => if fieldS a (c.toNat : Int) = 0 then fieldsC a l else fieldS a (c.toNat : Int)
def bareF (a : AskV) (l : Bytes) : AskV := l.foldl (fun x c => withoutS x (c.toNat : Int)) { a with op := 0 }
def lineF (a : AskV) (l : Bytes) : Bytes := wordS a.op ++ l.flatMap fun c => 32 :: layA a (c.toNat : Int)
def lineA (a : AskV) : Bytes := lineF a (kindS a.op)
def checkA (a : AskV) : Int :=
  if wordS a.op = [] then 22 else if ¬ fieldsC a (kindS a.op) = 0 then fieldsC a (kindS a.op) else if ¬ bareF a (kindS a.op) = askd then 2 else if 400 < (lineA a).length then 5 else 0
def textA (a : AskV) : Bytes × Int := if checkA a = 0 then (lineA a, 0) else ([], checkA a)
def readsA : AskV → Bytes → List Bytes → AskV × Int
  | a, [], _ => (a, 0)
  | a, c :: l, ws => if (readA a (c.toNat : Int) (List.getD ws 0 [])).2 = 0 then readsA (readA a (c.toNat : Int) (List.getD ws 0 [])).1 l (ws.drop 1) else (askd, (readA a (c.toNat : Int) (List.getD ws 0 [])).2)
def parseA (s : Bytes) : AskV × Int :=
  if 400 < s.length then (askd, 5) else if opS (List.getD (splitC 32 s) 0 []) = 0 then (askd, 22) else
  if ¬ (splitC 32 s).length = 1 + (kindS (opS (List.getD (splitC 32 s) 0 []))).length then (askd, 4) else
  readsA { askd with op := opS (List.getD (splitC 32 s) 0 []) } (kindS (opS (List.getD (splitC 32 s) 0 []))) ((splitC 32 s).drop 1)
def FieldsAt (a : AskV) (l : Bytes) (k : Nat) : Prop := fieldsC a l = fieldsC a (List.drop k l)
theorem fields_0 (a : AskV) (l : Bytes) : FieldsAt a l 0 := by unfold FieldsAt; rw [List.drop_zero]
theorem fields_step {a : AskV} {l : Bytes} {k : Nat} (h : k < l.length) (hN : FieldsAt a l k) (h0 : fieldS a ((List.getD l k 0).toNat : Int) = 0) : FieldsAt a l (k + 1) := by
  unfold FieldsAt at *
  rw [hN, Lib.drop_cons 0 l k h]
  exact if_pos h0
theorem fields_bad {a : AskV} {l : Bytes} {k : Nat} (h : k < l.length) (hN : FieldsAt a l k) (h0 : ¬ fieldS a ((List.getD l k 0).toNat : Int) = 0) : fieldsC a l = fieldS a ((List.getD l k 0).toNat : Int) := by
  unfold FieldsAt at hN
  rw [hN, Lib.drop_cons 0 l k h]
  exact if_neg h0
theorem fields_end {a : AskV} {l : Bytes} {k : Nat} (h : l.length ≤ k) (hN : FieldsAt a l k) : fieldsC a l = 0 := by
  unfold FieldsAt at hN
  rw [hN, List.drop_of_length_le h]; rfl
theorem fields_all {a : AskV} : ∀ {l : Bytes}, fieldsC a l = 0 → ∀ c ∈ l, fieldS a (c.toNat : Int) = 0
  | [], _, c, hc => by cases hc
  | d :: l, h, c, hc => by
    have h : (if fieldS a (d.toNat : Int) = 0 then fieldsC a l else fieldS a (d.toNat : Int)) = 0 := h
    by_cases e : fieldS a (d.toNat : Int) = 0
    · rw [if_pos e] at h
      rcases List.mem_cons.1 hc with rfl | hc
      · exact e
      · exact fields_all h c hc
    · rw [if_neg e] at h; exact absurd h e
theorem bare_step (a : AskV) (l : Bytes) (k : Nat) (h : k < l.length) : withoutS (bareF a (List.take k l)) ((List.getD l k 0).toNat : Int) = bareF a (List.take (k + 1) l) := by
  unfold bareF
  rw [Lib.take_succ 0 l k h, List.foldl_append]; rfl
theorem line_step (a : AskV) (l : Bytes) (k : Nat) (h : k < l.length) : lineF a (List.take k l) ++ ([32] ++ layA a ((List.getD l k 0).toNat : Int)) = lineF a (List.take (k + 1) l) := by
  unfold lineF
  rw [Lib.take_succ 0 l k h, List.flatMap_append, List.flatMap_cons, List.flatMap_nil, List.append_nil, List.append_assoc]; rfl
theorem line_0 (a : AskV) (l : Bytes) : lineF a (List.take 0 l) = wordS a.op := by unfold lineF; rw [List.take_zero, List.flatMap_nil, List.append_nil]
def ReadAt (a0 : AskV) (l : Bytes) (ws : List Bytes) (k : Nat) (a : AskV) : Prop := readsA a0 l ws = readsA a (List.drop k l) (List.drop k ws)
theorem readat_0 (a0 : AskV) (l : Bytes) (ws : List Bytes) : ReadAt a0 l ws 0 a0 := by unfold ReadAt; rw [List.drop_zero, List.drop_zero]
theorem getD_drop0 (ws : List Bytes) (k : Nat) : List.getD (List.drop k ws) 0 [] = List.getD ws k [] := by
  rw [List.getD_eq_getElem?_getD, List.getElem?_drop, List.getD_eq_getElem?_getD]; rfl
theorem readat_step {a0 a : AskV} {l : Bytes} {ws : List Bytes} {k : Nat} (h : k < l.length) (hN : ReadAt a0 l ws k a) (h0 : (readA a ((List.getD l k 0).toNat : Int) (List.getD ws k [])).2 = 0) : ReadAt a0 l ws (k + 1) (readA a ((List.getD l k 0).toNat : Int) (List.getD ws k [])).1 := by
  unfold ReadAt at *
  rw [hN, Lib.drop_cons 0 l k h]
  show (if (readA a _ (List.getD (List.drop k ws) 0 [])).2 = 0 then _ else _) = _
  rw [getD_drop0, if_pos h0, List.drop_drop]
theorem readat_bad {a0 a : AskV} {l : Bytes} {ws : List Bytes} {k : Nat} (h : k < l.length) (hN : ReadAt a0 l ws k a) (h0 : ¬ (readA a ((List.getD l k 0).toNat : Int) (List.getD ws k [])).2 = 0) : readsA a0 l ws = (askd, (readA a ((List.getD l k 0).toNat : Int) (List.getD ws k [])).2) := by
  unfold ReadAt at hN
  rw [hN, Lib.drop_cons 0 l k h]
  show (if (readA a _ (List.getD (List.drop k ws) 0 [])).2 = 0 then _ else _) = _
  rw [getD_drop0, if_neg h0]
theorem readat_end {a0 a : AskV} {l : Bytes} {ws : List Bytes} {k : Nat} (h : l.length ≤ k) (hN : ReadAt a0 l ws k a) : readsA a0 l ws = (a, 0) := by
  unfold ReadAt at hN
  rw [hN, List.drop_of_length_le h]; rfl
theorem apart_symm {c d : Int} (h : Apart c d) : Apart d c := by unfold Apart at *; omega
theorem zero_op {op c : Int} (h : LetI c) : withoutS { askd with op := op } c = { askd with op := op } := by
  rcases h with h | h | h | h | h | h | h | h | h | h | h <;> subst h <;> rfl
theorem check_ok {a : AskV} (h : checkA a = 0) : (1 ≤ a.op ∧ a.op ≤ 18) ∧ fieldsC a (kindS a.op) = 0 ∧ bareF a (kindS a.op) = askd ∧ (lineA a).length ≤ 400 := by
  unfold checkA at h
  split at h
  · omega
  · rename_i q1
    split at h
    · rename_i q2; exact absurd h q2
    · rename_i q2
      split at h
      · omega
      · rename_i q3
        split at h
        · omega
        · have q4 : ¬ (a.op < 1 ∨ 18 < a.op) := fun z => q1 (word_nil.2 z)
          exact ⟨by omega, Decidable.of_not_not q2, Decidable.of_not_not q3, by omega⟩
theorem text_ok {a : AskV} (h : checkA a = 0) : textA a = (lineA a, 0) := if_pos h
theorem text_no {a : AskV} (h : ¬ checkA a = 0) : textA a = ([], checkA a) := if_neg h
end AL.Ask
namespace AL.Ask
open Go AL
open AL.Sep (splitC joinC)
open AL.Policy (RuleV textP parseP checkP)
open AL.Rows (namedS)
set_option linter.unusedVariables false
set_option linter.unusedSimpArgs false
theorem named_key (s : Bytes) : decide (Rows.checkK ((3, s, 0) : Rows.KeyV) = 0) = namedS s := by
  rw [Bool.eq_iff_iff, decide_eq_true_eq, Rows.check_may]
  unfold Rows.MayK
  constructor
  · rintro (h | h | h | h)
    · exact absurd (show (3 : Int) = 1 from h.1) (by decide)
    · exact absurd (show (3 : Int) = 2 from h.1) (by decide)
    · exact h.2.1
    · rcases h.1 with q | q
      · exact absurd (show (3 : Int) = 4 from q) (by decide)
      · exact absurd (show (3 : Int) = 5 from q) (by decide)
  · intro h; exact .inr (.inr (.inl ⟨rfl, h, rfl⟩))
theorem okNs_idx (l : List Int) : ((decide ((List.length l : Int) ≤ 6)) && (!decide (0 ≤ Lib.idxS (fun x : Int => !(withinI x 1 999)) l))) = okNs l := by
  unfold okNs
  have h1 : decide ((List.length l : Int) ≤ 6) = decide (l.length ≤ 6) := by rw [decide_eq_decide]; omega
  have h2 : (!decide (0 ≤ Lib.idxS (fun x : Int => !(withinI x 1 999)) l)) = l.all fun n => withinI n 1 999 := by
    rw [Bool.eq_iff_iff, Bool.not_eq_true', decide_eq_false_iff_not, List.all_eq_true]
    constructor
    · intro h x hx
      have := Lib.idx_neg (p := fun x : Int => !(withinI x 1 999)) (by omega) x hx
      simpa using this
    · intro h
      rw [Lib.idx_none fun x hx => by rw [h x hx]; rfl]; decide
  rw [h1, h2]
theorem tmod_10 {n : Int} (h : 0 ≤ n) : Int.tmod n 10 = n % 10 ∧ 0 ≤ n % 10 ∧ n % 10 < 10 := ⟨Int.tmod_eq_emod_of_nonneg h, by omega, by omega⟩
theorem tdiv_10 {n : Int} (h : 0 ≤ n) : Int.tdiv n 10 = n / 10 := Int.tdiv_eq_ediv_of_nonneg h
theorem dg_at : ∀ k, k < 10 → List.getD ([48, 49, 50, 51, 52, 53, 54, 55, 56, 57, 97, 98, 99, 100, 101, 102] : List UInt8) k 0 = dg (k : Int) := by decide
theorem one_dg {n : Int} (h : 0 ≤ n) : flat 1 rowU8 [dg (n % 10)] = [AC.s (u8 ((List.getD ([48, 49, 50, 51, 52, 53, 54, 55, 56, 57, 97, 98, 99, 100, 101, 102] : List UInt8) (Int.tmod n 10).toNat 0).toNat : Int))] := by
  obtain ⟨h1, h2, h3⟩ := tmod_10 h
  rw [h1, dg_at _ (by omega), Int.toNat_of_nonneg h2]; rfl
theorem NumAt.len {n m : Int} {t : Bytes} (h : NumAt n m t) : t.length ≤ 3 := by
  have := num_le3 n
  unfold NumAt at h
  rw [h, List.length_append] at this
  omega
theorem pow_le3 {p : Nat} (h : p ≤ 3) : (10 : Int) ^ p ≤ 1000 := by
  have : p = 0 ∨ p = 1 ∨ p = 2 ∨ p = 3 := by omega
  rcases this with q | q | q | q <;> subst q <;> decide
theorem byte_dec {s : Bytes} {pos : Nat} (h : pos < s.length) (hc : 48 ≤ ((decS s pos).1 : Int) ∧ ((decS s pos).1 : Int) ≤ 57) : decS s pos = ((List.getD s pos 0).toNat, 1) ∧ digB (List.getD s pos 0) = true := by
  by_cases hb : (List.getD s pos 0).toNat < 128
  · have e := Policy.dec_low h hb
    rw [e] at hc
    simp only [] at hc
    exact ⟨e, digB_iff.2 (by omega)⟩
  · have := Policy.dec_high h hb
    omega
theorem val_dec {s : Bytes} {pos : Nat} (h : pos < s.length) (hc : 48 ≤ ((decS s pos).1 : Int) ∧ ((decS s pos).1 : Int) ≤ 57) : 10 * valS (List.take pos s) + (((decS s pos).1 : Int) - 48) = valS (List.take (pos + (decS s pos).2) s) := by
  rw [(byte_dec h hc).1]
  exact (val_step s pos h).symm
theorem dig_dec {s : Bytes} {pos : Nat} (h : pos < s.length) (hD : (List.take pos s).all digB = true) (hc : 48 ≤ ((decS s pos).1 : Int) ∧ ((decS s pos).1 : Int) ≤ 57) : (List.take (pos + (decS s pos).2) s).all digB = true := by
  obtain ⟨e, hd⟩ := byte_dec h hc
  rw [e]
  show (List.take (pos + 1) s).all digB = true
  rw [Lib.take_succ 0 s pos h, List.all_append, hD]
  simp only [List.all_cons, List.all_nil, hd, Bool.and_true]
theorem scan_size {s : Bytes} (h : (s = [] ∨ (3 : Int) < (List.length s : Int)) ∨ ((1 : Int) < (List.length s : Int) ∧ ((List.getD s 0 0).toNat : Int) = 48)) : scanN s = -1 := by
  unfold scanN
  refine if_neg fun q => ?_
  have q := q.1
  unfold sizeB at q
  simp only [Bool.not_eq_true', Bool.or_eq_false_iff, Bool.and_eq_false_iff, decide_eq_false_iff_not] at q
  rcases h with (h | h) | h
  · exact q.1 h
  · omega
  · rcases q.2.2 with z | z
    · omega
    · exact z (UInt8.toNat_inj.1 (by have : (48 : UInt8).toNat = 48 := rfl; omega))
theorem scan_not {s : Bytes} {pos : Nat} (h : pos < s.length) (hc : ((decS s pos).1 : Int) < 48 ∨ 57 < ((decS s pos).1 : Int)) : scanN s = -1 := by
  unfold scanN
  refine if_neg fun q => ?_
  have := digB_iff.1 (List.all_eq_true.1 q.2 _ (Lib.getD_mem 0 s pos h))
  rw [Policy.dec_low h (by omega)] at hc
  simp only [] at hc
  omega
theorem scan_fin {s : Bytes} {pos : Nat} (h : (¬ s = [] ∧ ¬ (3 : Int) < (List.length s : Int)) ∧ (¬ (1 : Int) < (List.length s : Int) ∨ ¬ ((List.getD s 0 0).toNat : Int) = 48)) (hp : s.length ≤ pos) (hD : (List.take pos s).all digB = true) : scanN s = valS (List.take pos s) := by
  rw [List.take_of_length_le hp] at hD ⊢
  unfold scanN
  rw [if_pos]
  refine ⟨?_, hD⟩
  unfold sizeB
  simp only [Bool.not_eq_true', Bool.or_eq_false_iff, Bool.and_eq_false_iff, decide_eq_false_iff_not]
  refine ⟨h.1.1, by omega, ?_⟩
  rcases h.2 with z | z
  · exact .inl (by omega)
  · exact .inr fun e => z (by rw [e]; rfl)
theorem nums_step (l : List Int) (k : Nat) (h : k < l.length) : List.set ((List.take k l).map numS ++ List.replicate (l.length - k) []) k (numS (List.getD l k 0)) = (List.take (k + 1) l).map numS ++ List.replicate (l.length - (k + 1)) [] := by
  have := Sep.fill_set ([] : Bytes) (l.map numS) k (by rw [List.length_map]; exact h)
  have e : List.getD (l.map numS) k [] = numS (List.getD l k 0) := by
    rw [Lib.getD_lt _ _ _ (by rw [List.length_map]; exact h), Lib.getD_lt _ _ _ h, List.getElem_map]
  rw [List.length_map, e] at this
  rw [List.map_take, List.map_take]
  exact this
theorem nums_end (l : List Int) (k : Nat) (h : l.length ≤ k) : (List.take k l).map numS ++ List.replicate (l.length - k) [] = l.map numS := by
  rw [List.take_of_length_le h, show l.length - k = 0 by omega]; simp
theorem list_len (l : List Int) : (joinC 44 (l.map numS)).length ≤ l.length * 4 := by
  have := Sep.join_max (c := 44) (n := 3) (l.map numS) (fun p hp => by
    obtain ⟨n, _, rfl⟩ := List.mem_map.1 hp
    exact num_le3 n)
  rwa [List.length_map] at this
theorem scans_step (l : List Bytes) (k : Nat) (h : k < l.length) : (List.take k l).map scanN ++ [scanN (List.getD l k [])] = (List.take (k + 1) l).map scanN := by
  rw [Lib.take_succ [] l k h, List.map_append]; rfl
theorem ns_in {l : List Int} (h : okNs l = true) : ∀ n ∈ l, 0 ≤ n ∧ n ≤ 999 := fun n hn => by
  have := (ns_mem h).2 n hn; omega
theorem wrap_u8 {n : Int} (h : 0 ≤ n) (h2 : n < 256) : IntKind.wrap .u8 n = n := by
  simp [IntKind.wrap, IntKind.signed, IntKind.bits]
  omega
theorem dig_1 {b : UInt8} (h : 48 ≤ (b.toNat : Int) ∧ (b.toNat : Int) ≤ 57) : digV b = (b.toNat : Int) - 48 := if_pos (by omega)
theorem dig_2 {b : UInt8} (h : 97 ≤ (b.toNat : Int) ∧ (b.toNat : Int) ≤ 102) : digV b = (b.toNat : Int) - 97 + 10 := by
  unfold digV; rw [if_neg (by omega), if_pos (by omega)]
theorem dig_3 {b : UInt8} (h : ¬ (48 ≤ (b.toNat : Int) ∧ (b.toNat : Int) ≤ 57) ∧ ¬ (97 ≤ (b.toNat : Int) ∧ (b.toNat : Int) ≤ 102)) : digV b = -1 := by
  unfold digV; rw [if_neg (by omega), if_neg (by omega)]
theorem hex_idx : ∀ n : Nat, n < 256 → (0 ≤ Int.fdiv (n : Int) (2 ^ (min (4 : Int).toNat (IntKind.bits .u8))) ∧ Int.fdiv (n : Int) (2 ^ (min (4 : Int).toNat (IntKind.bits .u8))) < 16) ∧ 0 ≤ IntKind.wrap .u8 ((BitVec.ofInt 8 (n : Int) &&& BitVec.ofInt 8 15).toNat) ∧ IntKind.wrap .u8 ((BitVec.ofInt 8 (n : Int) &&& BitVec.ofInt 8 15).toNat) < 16 := by decide +kernel
theorem hex_ix : ∀ n : Nat, n < 256 → (Int.fdiv (n : Int) (2 ^ (min (4 : Int).toNat (IntKind.bits .u8)))).toNat = n / 16 ∧ (IntKind.wrap .u8 ((BitVec.ofInt 8 (n : Int) &&& BitVec.ofInt 8 15).toNat)).toNat = n % 16 := by decide +kernel
theorem hex_two (b : UInt8) : flat 1 rowU8 (hexB b) = [AC.s (u8 ((List.getD ([48, 49, 50, 51, 52, 53, 54, 55, 56, 57, 97, 98, 99, 100, 101, 102] : List UInt8) (Int.fdiv (b.toNat : Int) (2 ^ (min (4 : Int).toNat (IntKind.bits .u8)))).toNat 0).toNat : Int)), AC.s (u8 ((List.getD ([48, 49, 50, 51, 52, 53, 54, 55, 56, 57, 97, 98, 99, 100, 101, 102] : List UInt8) (IntKind.wrap .u8 ((BitVec.ofInt 8 (b.toNat : Int) &&& BitVec.ofInt 8 15).toNat)).toNat 0).toNat : Int))] := by
  obtain ⟨h1, h2⟩ := hex_ix b.toNat b.toNat_lt
  rw [h1, h2]; rfl
theorem hex_idr : ∀ n : Nat, n < 256 → (0 ≤ IntKind.wrap .u8 (Int.tdiv (n : Int) 16) ∧ IntKind.wrap .u8 (Int.tdiv (n : Int) 16) < 16) ∧ 0 ≤ Int.tmod (n : Int) 16 ∧ Int.tmod (n : Int) 16 < 16 := by decide +kernel
theorem hex_ir : ∀ n : Nat, n < 256 → (IntKind.wrap .u8 (Int.tdiv (n : Int) 16)).toNat = n / 16 ∧ (Int.tmod (n : Int) 16).toNat = n % 16 := by decide +kernel
theorem hex_twr (b : UInt8) : flat 1 rowU8 (hexB b) = [AC.s (u8 ((List.getD ([48, 49, 50, 51, 52, 53, 54, 55, 56, 57, 97, 98, 99, 100, 101, 102] : List UInt8) (IntKind.wrap .u8 (Int.tdiv (b.toNat : Int) 16)).toNat 0).toNat : Int)), AC.s (u8 ((List.getD ([48, 49, 50, 51, 52, 53, 54, 55, 56, 57, 97, 98, 99, 100, 101, 102] : List UInt8) (Int.tmod (b.toNat : Int) 16).toNat 0).toNat : Int))] := by
  obtain ⟨h1, h2⟩ := hex_ir b.toNat b.toNat_lt
  rw [h1, h2]; rfl
theorem pair_val : ∀ x : Nat, x < 16 → ∀ y : Nat, y < 16 → IntKind.wrap .u8 (IntKind.wrap .i64 ((BitVec.ofInt 64 ((x : Int) * 2 ^ (min (4 : Int).toNat (IntKind.bits .i64))) ||| BitVec.ofInt 64 (y : Int)).toNat)) = ((UInt8.ofNat (16 * x + y)).toNat : Int) := by decide +kernel
theorem one_pair {a b : UInt8} (h1 : 0 ≤ digV a) (h2 : 0 ≤ digV b) : flat 1 rowU8 [pairB a b] = [AC.s (u8 (IntKind.wrap .u8 (IntKind.wrap .i64 ((BitVec.ofInt 64 (digV a * 2 ^ (min (4 : Int).toNat (IntKind.bits .i64))) ||| BitVec.ofInt 64 (digV b)).toNat))))] := by
  have ra := dig_rng a
  have rb := dig_rng b
  unfold pairB
  obtain ⟨x, hx⟩ := Int.eq_ofNat_of_zero_le h1
  obtain ⟨y, hy⟩ := Int.eq_ofNat_of_zero_le h2
  rw [hx, hy, pair_val x (by omega) y (by omega), show (16 * (x : Int) + (y : Int)).toNat = 16 * x + y by omega]; rfl
theorem same_eq {a b : AskV} (h : a.ns = b.ns ∧ a.rules = b.rules) : decide (a = b) = (((((((((decide (a.op = b.op)) && (decide (a.token = b.token))) && (decide (a.path = b.path))) && (decide (a.other = b.other))) && (decide (a.n = b.n))) && (decide (a.cas = b.cas))) && (a.flag == b.flag)) && (decide (a.data = b.data))) && (decide (a.key = b.key))) := by
  rw [Bool.eq_iff_iff]
  simp only [decide_eq_true_eq, Bool.and_eq_true, beq_iff_eq]
  rw [AskV.eq_iff]
  constructor
  · rintro ⟨h1, h2, h3, h4, h5, h6, h7, _, h8, _, h9⟩
    exact ⟨⟨⟨⟨⟨⟨⟨⟨h1, h2⟩, h3⟩, h4⟩, h5⟩, h6⟩, h7⟩, h8⟩, h9⟩
  · rintro ⟨⟨⟨⟨⟨⟨⟨⟨h1, h2⟩, h3⟩, h4⟩, h5⟩, h6⟩, h7⟩, h8⟩, h9⟩
    exact ⟨h1, h2, h3, h4, h5, h6, h7, h.1, h8, h.2, h9⟩
theorem tmod_2 (n : Nat) : Int.tmod (n : Int) 2 = ((n % 2 : Nat) : Int) := by rw [Int.tmod_eq_emod_of_nonneg (by omega)]; omega
theorem tdiv_2 (n : Nat) : Int.tdiv (n : Int) 2 = ((n / 2 : Nat) : Int) := by rw [Int.tdiv_eq_ediv_of_nonneg (by omega)]; omega
theorem key16 (k : Bytes) : decide ((List.length k : Int) = 16) = decide (k.length = 16) := by rw [decide_eq_decide]; omega
end AL.Ask
namespace Go.Proofs
open Go.Shelf
def Tryz.lays169_ren : Go.Shelf.Ren := ⟨fun | 169 => 101 | n => n, fun | 70 => 125 | 9 => 9 | 0 => 0 | 72 => 127 | 37 => 73 | 127 => 138 | 3 => 3 | 5 => 5 | n => n, fun | n => n⟩
theorem Tryz.lays169 : Go.Proofs.Lays.n169 Tryz.prog Tryz.lays169_ren := {
  mixed := by kernel_rfl
  f169 := Tryz.func101.trans (congrArg some (by kernel_rfl))
  t0 := Tryz.underlying0
  a0 := Tryz.isAgg0
  z0 := Tryz.sizeOf0
  v0 := Tryz.zeroValue0
  t3 := Tryz.underlying3
  a3 := Tryz.isAgg3
  z3 := Tryz.sizeOf3
  v3 := Tryz.zeroValue3
  t9 := Tryz.underlying9
  a9 := Tryz.isAgg9
  z9 := Tryz.sizeOf9
  v9 := Tryz.zeroValue9
  t37 := Tryz.underlying73
  a37 := Tryz.isAgg73
  z37 := Tryz.sizeOf73
  v37 := Tryz.zeroValue73
  t70 := Tryz.underlying125
  a70 := Tryz.isAgg125
  z70 := Tryz.sizeOf125
  v70 := Tryz.zeroValue125
  t72 := Tryz.underlying127
  a72 := Tryz.isAgg127
  z72 := Tryz.sizeOf127
  v72 := Tryz.zeroValue127
  t127 := Tryz.underlying138
  a127 := Tryz.isAgg138
  z127 := Tryz.sizeOf138
  v127 := Tryz.zeroValue138 }
theorem Tryz.Builder_Extra_169 : Builder.Extra Tryz.prog Tryz.lays169_ren := {
  sizeBuilder := by kernel_rfl
  liesBuilder := by kernel_rfl
  t5 := Tryz.underlying5
  a5 := Tryz.isAgg5
  z5 := Tryz.sizeOf5
  v5 := Tryz.zeroValue5
  infoByte := by kernel_rfl
  cellsByte := by kernel_rfl
  sizeByte := by kernel_rfl
  neB5 := by decide }
def Tryz.lays156_ren : Go.Shelf.Ren := ⟨fun | 156 => 84 | 165 => 99 | 166 => 100 | 169 => 101 | 240 => 112 | 241 => 113 | 276 => 118 | 277 => 119 | n => n, fun | 31 => 64 | 9 => 9 | 3 => 3 | 4 => 4 | 0 => 0 | 20 => 20 | 72 => 127 | 76 => 131 | 70 => 125 | 37 => 73 | 75 => 130 | 127 => 138 | 164 => 148 | 5 => 5 | 80 => 50 | n => n, fun | n => n⟩
theorem Tryz.lays156 : Go.Proofs.Lays.n156 Tryz.prog Tryz.lays156_ren := {
  mixed := by kernel_rfl
  f156 := Tryz.func84.trans (congrArg some (by kernel_rfl))
  f165 := Tryz.func99.trans (congrArg some (by kernel_rfl))
  f166 := Tryz.func100.trans (congrArg some (by kernel_rfl))
  f169 := Tryz.func101.trans (congrArg some (by kernel_rfl))
  f240 := Tryz.func112.trans (congrArg some (by kernel_rfl))
  f241 := Tryz.func113.trans (congrArg some (by kernel_rfl))
  f276 := Tryz.func118.trans (congrArg some (by kernel_rfl))
  f277 := Tryz.func119.trans (congrArg some (by kernel_rfl))
  t0 := Tryz.underlying0
  a0 := Tryz.isAgg0
  z0 := Tryz.sizeOf0
  v0 := Tryz.zeroValue0
  t3 := Tryz.underlying3
  a3 := Tryz.isAgg3
  z3 := Tryz.sizeOf3
  v3 := Tryz.zeroValue3
  t4 := Tryz.underlying4
  a4 := Tryz.isAgg4
  z4 := Tryz.sizeOf4
  v4 := Tryz.zeroValue4
  t9 := Tryz.underlying9
  a9 := Tryz.isAgg9
  z9 := Tryz.sizeOf9
  v9 := Tryz.zeroValue9
  t20 := Tryz.underlying20
  a20 := Tryz.isAgg20
  z20 := Tryz.sizeOf20
  v20 := Tryz.zeroValue20
  t31 := Tryz.underlying64
  a31 := Tryz.isAgg64
  z31 := Tryz.sizeOf64
  v31 := Tryz.zeroValue64
  t37 := Tryz.underlying73
  a37 := Tryz.isAgg73
  z37 := Tryz.sizeOf73
  v37 := Tryz.zeroValue73
  t70 := Tryz.underlying125
  a70 := Tryz.isAgg125
  z70 := Tryz.sizeOf125
  v70 := Tryz.zeroValue125
  t72 := Tryz.underlying127
  a72 := Tryz.isAgg127
  z72 := Tryz.sizeOf127
  v72 := Tryz.zeroValue127
  t75 := Tryz.underlying130
  a75 := Tryz.isAgg130
  z75 := Tryz.sizeOf130
  v75 := Tryz.zeroValue130
  t76 := Tryz.underlying131
  a76 := Tryz.isAgg131
  z76 := Tryz.sizeOf131
  v76 := Tryz.zeroValue131
  t127 := Tryz.underlying138
  a127 := Tryz.isAgg138
  z127 := Tryz.sizeOf138
  v127 := Tryz.zeroValue138
  t164 := Tryz.underlying148
  a164 := Tryz.isAgg148
  z164 := Tryz.sizeOf148
  v164 := Tryz.zeroValue148 }
theorem Tryz.Builder_Extra_156 : Builder.Extra Tryz.prog Tryz.lays156_ren := {
  sizeBuilder := by kernel_rfl
  liesBuilder := by kernel_rfl
  t5 := Tryz.underlying5
  a5 := Tryz.isAgg5
  z5 := Tryz.sizeOf5
  v5 := Tryz.zeroValue5
  infoByte := by kernel_rfl
  cellsByte := by kernel_rfl
  sizeByte := by kernel_rfl
  neB5 := by decide }
open Go.RowKit in
theorem Tryz.strings_Join_none (a : Option Addr) (c : Nat) (sep : ByteArray) (w : World) :
    Calls Tryz.prog 84 #[.slice a 0 c, .string sep] w fun e w' => e = .returned (.string ⟨#[]⟩) ∧ w' = w := Any.strings_Join_none Tryz.lays156 Tryz.Builder_Extra_156 a c sep w
open Go.RowKit in
theorem Tryz.strings_Join (bk o c : Nat) (xs : List ByteArray) (sep : ByteArray) (w : World) (hcells : ∀ (j : Nat) x, xs[j]? = some x → w.cell? ⟨bk, o + j, none⟩ = some (.string x)) (hbk : bk < w.heap.size) (hN : xs.length ≤ 140737488355328) (hcap : xs.length ≤ c) (hlen : (Lib.join (xs.map (·.data.toList)) sep.data.toList).length ≤ 140737488355328) :
    Calls Tryz.prog 84 #[.slice (some ⟨bk, o, none⟩) xs.length c, .string sep] w fun e w' => e = .returned (.string ⟨(Lib.join (xs.map (·.data.toList)) sep.data.toList).toArray⟩) ∧ Below w.heap.size w w' := Any.strings_Join Tryz.lays156 Tryz.Builder_Extra_156 bk o c xs sep w hcells hbk hN hcap hlen
open Go.RowKit in
theorem Tryz.Builder_String_any_k (B b : Nat) (l : List UInt8) (w : World) (h : Lib.IsBuilderF 127 5 B b (Lib.byteCells l) w) (hBw : B ≤ w.heap.size) :
    Calls Tryz.prog 101 #[.pointer (some ⟨b, 0, none⟩)] w fun e w' => e = .returned (.string ⟨l.toArray⟩) ∧ (Lib.IsBuilderF 127 5 B b (Lib.byteCells l) w' ∧ Below B w w' ∧ Lib.OthersKept 5 (some b) w w') := Any.Builder_String_any_k Tryz.lays169 Tryz.Builder_Extra_169 B b l w h hBw
def Tryz.lays219_ren : Go.Shelf.Ren := ⟨fun | 219 => 97 | 217 => 108 | 225 => 109 | 224 => 110 | 267 => 111 | 266 => 116 | 314 => 117 | n => n, fun | 9 => 9 | 3 => 3 | 4 => 4 | 5 => 5 | 46 => 75 | 146 => 146 | 51 => 145 | n => n, fun | 1 => 0 | n => n⟩
theorem Tryz.lays219 : Go.Proofs.Lays.n219 Tryz.prog Tryz.lays219_ren := {
  mixed := by kernel_rfl
  f217 := Tryz.func108.trans (congrArg some (by kernel_rfl))
  f219 := Tryz.func97.trans (congrArg some (by kernel_rfl))
  f224 := Tryz.func110.trans (congrArg some (by kernel_rfl))
  f225 := Tryz.func109.trans (congrArg some (by kernel_rfl))
  f266 := Tryz.func116.trans (congrArg some (by kernel_rfl))
  f267 := Tryz.func111.trans (congrArg some (by kernel_rfl))
  f314 := Tryz.func117.trans (congrArg some (by kernel_rfl))
  t3 := Tryz.underlying3
  a3 := Tryz.isAgg3
  z3 := Tryz.sizeOf3
  v3 := Tryz.zeroValue3
  t4 := Tryz.underlying4
  a4 := Tryz.isAgg4
  z4 := Tryz.sizeOf4
  v4 := Tryz.zeroValue4
  t5 := Tryz.underlying5
  a5 := Tryz.isAgg5
  z5 := Tryz.sizeOf5
  v5 := Tryz.zeroValue5
  t9 := Tryz.underlying9
  a9 := Tryz.isAgg9
  z9 := Tryz.sizeOf9
  v9 := Tryz.zeroValue9
  t46 := Tryz.underlying75
  a46 := Tryz.isAgg75
  z46 := Tryz.sizeOf75
  v46 := Tryz.zeroValue75
  t51 := Tryz.underlying145
  a51 := Tryz.isAgg145
  z51 := Tryz.sizeOf145
  v51 := Tryz.zeroValue145
  t146 := Tryz.underlying146
  a146 := Tryz.isAgg146
  z146 := Tryz.sizeOf146
  v146 := Tryz.zeroValue146
  g1 := by kernel_rfl }
open Go.RowKit Go.Lib in
theorem Tryz.stringslite_Index_one (s : ByteArray) (c : UInt8) (w : World) :
    Calls Tryz.prog 97 #[.string s, .string ⟨#[c]⟩] w fun e w' => e = .returned (.int .i64 (Lib.indexByte s.data.toList c)) ∧ w' = w := Any.stringslite_Index_one Tryz.lays219 s c w
def Tryz.lays143_ren : Go.Shelf.Ren := ⟨fun | 143 => 80 | 219 => 97 | 217 => 108 | 225 => 109 | 224 => 110 | 267 => 111 | 266 => 116 | 314 => 117 | n => n, fun | 9 => 9 | 3 => 3 | 4 => 4 | 5 => 5 | 46 => 75 | 146 => 146 | 51 => 145 | n => n, fun | 1 => 0 | n => n⟩
theorem Tryz.lays143 : Go.Proofs.Lays.n143 Tryz.prog Tryz.lays143_ren := {
  mixed := by kernel_rfl
  f143 := Tryz.func80.trans (congrArg some (by kernel_rfl))
  f217 := Tryz.func108.trans (congrArg some (by kernel_rfl))
  f219 := Tryz.func97.trans (congrArg some (by kernel_rfl))
  f224 := Tryz.func110.trans (congrArg some (by kernel_rfl))
  f225 := Tryz.func109.trans (congrArg some (by kernel_rfl))
  f266 := Tryz.func116.trans (congrArg some (by kernel_rfl))
  f267 := Tryz.func111.trans (congrArg some (by kernel_rfl))
  f314 := Tryz.func117.trans (congrArg some (by kernel_rfl))
  t3 := Tryz.underlying3
  a3 := Tryz.isAgg3
  z3 := Tryz.sizeOf3
  v3 := Tryz.zeroValue3
  t4 := Tryz.underlying4
  a4 := Tryz.isAgg4
  z4 := Tryz.sizeOf4
  v4 := Tryz.zeroValue4
  t5 := Tryz.underlying5
  a5 := Tryz.isAgg5
  z5 := Tryz.sizeOf5
  v5 := Tryz.zeroValue5
  t9 := Tryz.underlying9
  a9 := Tryz.isAgg9
  z9 := Tryz.sizeOf9
  v9 := Tryz.zeroValue9
  t46 := Tryz.underlying75
  a46 := Tryz.isAgg75
  z46 := Tryz.sizeOf75
  v46 := Tryz.zeroValue75
  t51 := Tryz.underlying145
  a51 := Tryz.isAgg145
  z51 := Tryz.sizeOf145
  v51 := Tryz.zeroValue145
  t146 := Tryz.underlying146
  a146 := Tryz.isAgg146
  z146 := Tryz.sizeOf146
  v146 := Tryz.zeroValue146
  g1 := by kernel_rfl }
open Go.RowKit Go.Lib in
theorem Tryz.strings_Index_one (s : ByteArray) (c : UInt8) (w : World) :
    Calls Tryz.prog 80 #[.string s, .string ⟨#[c]⟩] w fun e w' => e = .returned (.int .i64 (Lib.indexByte s.data.toList c)) ∧ w' = w := Any.strings_Index_one Tryz.lays143 s c w
def Tryz.lays138_ren : Go.Shelf.Ren := ⟨fun | 138 => 79 | 195 => 94 | 218 => 96 | 143 => 80 | 219 => 97 | 217 => 108 | 225 => 109 | 224 => 110 | 267 => 111 | 266 => 116 | 314 => 117 | n => n, fun | 9 => 9 | 3 => 3 | 4 => 4 | 5 => 5 | 0 => 0 | 46 => 75 | 146 => 146 | 51 => 145 | n => n, fun | 1 => 0 | n => n⟩
theorem Tryz.lays138 : Go.Proofs.Lays.n138 Tryz.prog Tryz.lays138_ren := {
  mixed := by kernel_rfl
  f138 := Tryz.func79.trans (congrArg some (by kernel_rfl))
  f143 := Tryz.func80.trans (congrArg some (by kernel_rfl))
  f195 := Tryz.func94.trans (congrArg some (by kernel_rfl))
  f217 := Tryz.func108.trans (congrArg some (by kernel_rfl))
  f218 := Tryz.func96.trans (congrArg some (by kernel_rfl))
  f219 := Tryz.func97.trans (congrArg some (by kernel_rfl))
  f224 := Tryz.func110.trans (congrArg some (by kernel_rfl))
  f225 := Tryz.func109.trans (congrArg some (by kernel_rfl))
  f266 := Tryz.func116.trans (congrArg some (by kernel_rfl))
  f267 := Tryz.func111.trans (congrArg some (by kernel_rfl))
  f314 := Tryz.func117.trans (congrArg some (by kernel_rfl))
  t0 := Tryz.underlying0
  a0 := Tryz.isAgg0
  z0 := Tryz.sizeOf0
  v0 := Tryz.zeroValue0
  t3 := Tryz.underlying3
  a3 := Tryz.isAgg3
  z3 := Tryz.sizeOf3
  v3 := Tryz.zeroValue3
  t4 := Tryz.underlying4
  a4 := Tryz.isAgg4
  z4 := Tryz.sizeOf4
  v4 := Tryz.zeroValue4
  t5 := Tryz.underlying5
  a5 := Tryz.isAgg5
  z5 := Tryz.sizeOf5
  v5 := Tryz.zeroValue5
  t9 := Tryz.underlying9
  a9 := Tryz.isAgg9
  z9 := Tryz.sizeOf9
  v9 := Tryz.zeroValue9
  t46 := Tryz.underlying75
  a46 := Tryz.isAgg75
  z46 := Tryz.sizeOf75
  v46 := Tryz.zeroValue75
  t51 := Tryz.underlying145
  a51 := Tryz.isAgg145
  z51 := Tryz.sizeOf145
  v51 := Tryz.zeroValue145
  t146 := Tryz.underlying146
  a146 := Tryz.isAgg146
  z146 := Tryz.sizeOf146
  v146 := Tryz.zeroValue146
  g1 := by kernel_rfl }
open Go.RowKit Go.Lib in
theorem Tryz.strings_Count_one (s : ByteArray) (c : UInt8) (w : World) :
    Calls Tryz.prog 79 #[.string s, .string ⟨#[c]⟩] w fun e w' => e = .returned (.int .i64 (Lib.countByte s.data.toList c)) ∧ w' = w := Any.strings_Count_one Tryz.lays138 s c w
def Tryz.lays260_ren : Go.Shelf.Ren := ⟨fun | 260 => 107 | n => n, fun | 9 => 9 | 21 => 21 | 3 => 3 | 4 => 4 | 5 => 5 | 119 => 141 | 0 => 0 | 46 => 75 | 139 => 144 | 138 => 143 | n => n, fun | 3 => 1 | 4 => 2 | n => n⟩
theorem Tryz.lays260 : Go.Proofs.Lays.n260 Tryz.prog Tryz.lays260_ren := {
  mixed := by kernel_rfl
  f260 := Tryz.func107.trans (congrArg some (by kernel_rfl))
  t0 := Tryz.underlying0
  a0 := Tryz.isAgg0
  z0 := Tryz.sizeOf0
  v0 := Tryz.zeroValue0
  t3 := Tryz.underlying3
  a3 := Tryz.isAgg3
  z3 := Tryz.sizeOf3
  v3 := Tryz.zeroValue3
  t4 := Tryz.underlying4
  a4 := Tryz.isAgg4
  z4 := Tryz.sizeOf4
  v4 := Tryz.zeroValue4
  t5 := Tryz.underlying5
  a5 := Tryz.isAgg5
  z5 := Tryz.sizeOf5
  v5 := Tryz.zeroValue5
  t9 := Tryz.underlying9
  a9 := Tryz.isAgg9
  z9 := Tryz.sizeOf9
  v9 := Tryz.zeroValue9
  t21 := Tryz.underlying21
  a21 := Tryz.isAgg21
  z21 := Tryz.sizeOf21
  v21 := Tryz.zeroValue21
  t46 := Tryz.underlying75
  a46 := Tryz.isAgg75
  z46 := Tryz.sizeOf75
  v46 := Tryz.zeroValue75
  t119 := Tryz.underlying141
  a119 := Tryz.isAgg141
  z119 := Tryz.sizeOf141
  t138 := Tryz.underlying143
  a138 := Tryz.isAgg143
  z138 := Tryz.sizeOf143
  v138 := Tryz.zeroValue143
  t139 := Tryz.underlying144
  a139 := Tryz.isAgg144
  z139 := Tryz.sizeOf144
  v139 := Tryz.zeroValue144
  g3 := by kernel_rfl
  g4 := by kernel_rfl }
end Go.Proofs
namespace AL.Sep
open Go Go.Proofs Go.RowKit AL
set_option linter.unusedVariables false
set_option linter.unusedSimpArgs false
theorem Count_c (k : UInt8) (s : Bytes) : Pure Tryz.prog 79 [tc (st s), tc (st [k])] (vc (i6 ((s.count k : Nat) : Int))) := by
  refine Pure.of_calls ⟨_, Tryz.func79, by kernel_rfl, by kernel_rfl⟩ fun Γ w cargs hm => ?_
  obtain ⟨u, v, rfl, ⟨rfl, hu⟩, ⟨rfl, hv⟩⟩ := args2 hm
  refine (Tryz.strings_Count_one (ba s) k w).mono ?_
  rintro e w' ⟨rfl, rfl⟩
  have h1 : s.count k ≤ s.length := List.count_le_length
  simp only [maxLen] at hu
  exact ⟨_, rfl, rfl, rfl, inR64 (by omega) (by omega)⟩
theorem Index_c (k : UInt8) (s : Bytes) : Pure Tryz.prog 80 [tc (st s), tc (st [k])] (vc (i6 (Go.Lib.indexByte s k))) := by
  refine Pure.of_calls ⟨_, Tryz.func80, by kernel_rfl, by kernel_rfl⟩ fun Γ w cargs hm => ?_
  obtain ⟨u, v, rfl, ⟨rfl, hu⟩, ⟨rfl, hv⟩⟩ := args2 hm
  refine (Tryz.strings_Index_one (ba s) k w).mono ?_
  rintro e w' ⟨rfl, rfl⟩
  have := index_rng k s
  simp only [maxLen] at hu
  exact ⟨_, rfl, rfl, rfl, inR64 (by omega) (by omega)⟩
theorem IndexL_c (k : UInt8) (s : Bytes) : Pure Tryz.prog 97 [tc (st s), tc (st [k])] (vc (i6 (Go.Lib.indexByte s k))) := by
  refine Pure.of_calls ⟨_, Tryz.func97, by kernel_rfl, by kernel_rfl⟩ fun Γ w cargs hm => ?_
  obtain ⟨u, v, rfl, ⟨rfl, hu⟩, ⟨rfl, hv⟩⟩ := args2 hm
  refine (Tryz.stringslite_Index_one (ba s) k w).mono ?_
  rintro e w' ⟨rfl, rfl⟩
  have := index_rng k s
  simp only [maxLen] at hu
  exact ⟨_, rfl, rfl, rfl, inR64 (by omega) (by omega)⟩
theorem lib_join (c : UInt8) : ∀ (l : List Bytes), Go.Lib.join l [c] = joinC c l
  | [] => rfl
  | [p] => Go.Lib.join_one p [c]
  | p :: q :: l => by
    have ih := lib_join c (q :: l)
    unfold Go.Lib.join at ih ⊢
    show _ = p ++ c :: joinC c (q :: l)
    rw [← ih]
    simp [List.intercalate, List.intersperse]
theorem Join_c (c : UInt8) (l : List Bytes) (hb : (joinC c l).length ≤ 100000) : Pure Tryz.prog 84 [tc (AL.Fnv.slS l), tc (st [c])] (vc (st (joinC c l))) := by
  refine Pure.of_below ⟨_, Tryz.func84, by kernel_rfl, by kernel_rfl⟩ fun Γ w cargs hh hm => ?_
  obtain ⟨u, v, rfl, hu, ⟨rfl, hv⟩⟩ := args2 hm
  obtain ⟨a, cap, rfl, h1, h2, h3⟩ := hu
  have fin : MV Γ H0 w (vc (st (joinC c l))) (.string (ba (joinC c l))) := ⟨rfl, by simp only [maxLen]; omega⟩
  rcases h3 with ⟨rfl, h3⟩ | ⟨b, off, rfl, hI, hc⟩
  · refine (Tryz.strings_Join_none a cap (ba [c]) w).mono ?_
    rintro e w' ⟨rfl, rfl⟩
    exact ⟨_, rfl, Below.refl _ _, rfl, Nat.zero_le _⟩
  · have hcells : ∀ (j : Nat) x, (l.map ba)[j]? = some x → w.cell? ⟨b, off + j, none⟩ = some (.string x) := by
      intro j x hx
      rw [List.getElem?_map, Option.map_eq_some_iff] at hx
      obtain ⟨y, hy, rfl⟩ := hx
      obtain ⟨u, hu, hmu⟩ := hc j y hy 0 (by omega)
      obtain ⟨rfl, _⟩ := (show u = .string (ba y) ∧ _ from hmu)
      rw [Nat.mul_one, Nat.add_zero] at hu
      exact hu
    have hl : ((l.map ba).map (·.data.toList)) = l := by
      rw [List.map_map]
      conv => rhs; rw [← List.map_id l]
      exact List.map_congr_left fun x _ => rfl
    have hlen : (l.map ba).length = l.length := List.length_map _
    have hj : Go.Lib.join ((l.map ba).map (·.data.toList)) (ba [c]).data.toList = joinC c l := by rw [hl]; exact lib_join c l
    have := Tryz.strings_Join b off cap (l.map ba) (ba [c]) w hcells (hh.ilt b hI) (by have := join_count c l; rw [hlen]; omega) (by rw [hlen]; exact h1) (by rw [hj]; omega)
    rw [hlen, hj] at this
    refine this.mono ?_
    rintro e w' ⟨rfl, hbel⟩
    exact ⟨_, rfl, hbel, rfl, by simp only [maxLen]; omega⟩
end AL.Sep
namespace AL.Sep
open Go Go.Proofs AL
set_option linter.unusedVariables false
set_option linter.unusedSimpArgs false
theorem f57_body : Tryz.f57.body = some (.seq (.region 0 (rg Tryz.f57 0) false) (.seq (.seq (.region 1 (rg Tryz.f57 1) false) (.cond (.tmp 13) (.seq (.region 2 (rg Tryz.f57 2) false) (.ret)) (.skip))) (.seq (.seq (.region 3 (rg Tryz.f57 3) false) (.cond (.tmp 15) (.seq (.region 4 (rg Tryz.f57 4) false) (.ret)) (.skip))) (.seq (.seq (.region 5 (rg Tryz.f57 5) false) (.cond (.tmp 20) (.region 6 (rg Tryz.f57 6) false) (.skip))) (.seq (.region 7 (rg Tryz.f57 7) false) (.seq (.region 8 (rg Tryz.f57 8) false) (.seq (.region 9 (rg Tryz.f57 9) false) (.seq (.region 10 (rg Tryz.f57 10) false) (.seq (.block 0 (.loop (.seq (.seq (.region 11 (rg Tryz.f57 11) false) (.cond (.tmp 36) (.skip) (.exit 0))) (.block 1 (.seq (.region 12 (rg Tryz.f57 12) false) (.seq (.seq (.region 13 (rg Tryz.f57 13) false) (.cond (.tmp 41) (.exit 0) (.skip))) (.seq (.region 14 (rg Tryz.f57 14) false) (.seq (.region 15 (rg Tryz.f57 15) false) (.region 16 (rg Tryz.f57 16) false))))))))) (.seq (.region 17 (rg Tryz.f57 17) false) (.seq (.region 18 (rg Tryz.f57 18) false) (.ret)))))))))))) := by kernel_rfl
set_option maxRecDepth 100000 in
set_option maxHeartbeats 8000000 in
theorem genSplit_c (k : UInt8) (s : Bytes) (hb : s.length ≤ 100000) : Pure Tryz.prog 57 [tc (st s), tc (st [k]), tc (i6 0), tc (i6 (-1))] (vc (AL.Fnv.slS (splitC k s))) := by
 refine Pure.of_body Tryz.func57 f57_body (by kernel_rfl) Tryz.ntmps57 (by kernel_rfl) (by kernel_rfl) ?_
 have hn := gen_n k s
 have hcn : List.count k s ≤ s.length := List.count_le_length
 refine gS [] [] 66 [(0, vc (st s)), (1, vc (st [k])), (2, vc (i6 0)), (3, vc (i6 (-1)))] [] trivial ?_
 refine gQ ?_
 refine gS [] [] 66 [(0, vc (st s)), (1, vc (st [k])), (2, vc (i6 0)), (3, vc (i6 (-1))), (13, vc (bo false))] [] trivial ?_
 refine gBf ?_
 refine AMx.skip ?_
 refine gQ ?_
 refine gS [] [] 66 [(0, vc (st s)), (1, vc (st [k])), (2, vc (i6 0)), (3, vc (i6 (-1))), (15, vc (bo false))] [] trivial ?_
 refine gBf ?_
 refine AMx.skip ?_
 refine gQ ?_
 refine gS [] [] 66 [(0, vc (st s)), (1, vc (st [k])), (2, vc (i6 0)), (3, vc (i6 (-1))), (20, vc (bo true))] [] trivial ?_
 refine gBt ?_
 refine gR [(2, CE.call [] [] (vc (i6 ((List.count (k : UInt8) s : Nat) : Int))) [])] [Spec Tryz.prog 79 [tc (st s), tc (st [k])] (ofH []) (vc (i6 ((List.count (k : UInt8) s : Nat) : Int))) (ofH []), InR .i64 (((List.count (k : UInt8) s : Nat) : Int) + 1)] 66 [(0, vc (st s)), (1, vc (st [k])), (2, vc (i6 0)), (3, vc (i6 (((List.count (k : UInt8) s : Nat) : Int) + 1)))] [] ⟨(AL.Sep.Count_c k s), (show InR .i64 (((List.count (k : UInt8) s : Nat) : Int) + 1) from (inR64 (by omega) (by omega)))⟩ ?_
 refine gS [] [InR .i64 ((List.length s : Int) + 1)] 66 [(0, vc (st s)), (1, vc (st [k])), (2, vc (i6 0)), (3, vc (i6 (min (((List.count (k : UInt8) s : Nat) : Int) + 1) ((List.length s : Int) + 1))))] [] (show InR .i64 ((List.length s : Int) + 1) from (inR64 (by omega) (by omega))) ?_
 refine gS [(1, CE.obj (AObj.grow 9 1 Bytes [] AL.Fnv.rowS (List.replicate (min (((List.count (k : UInt8) s : Nat) : Int) + 1) ((List.length s : Int) + 1)).toNat [])))] [0 ≤ min (((List.count (k : UInt8) s : Nat) : Int) + 1) ((List.length s : Int) + 1), min (((List.count (k : UInt8) s : Nat) : Int) + 1) ((List.length s : Int) + 1) ≤ min (((List.count (k : UInt8) s : Nat) : Int) + 1) ((List.length s : Int) + 1), (16 : Int) * (min (((List.count (k : UInt8) s : Nat) : Int) + 1) ((List.length s : Int) + 1)) ≤ 281474976710656, min (((List.count (k : UInt8) s : Nat) : Int) + 1) ((List.length s : Int) + 1) ≤ 9223372036854775807, MakeC (min (((List.count (k : UInt8) s : Nat) : Int) + 1) ((List.length s : Int) + 1)).toNat [.s (st [])] (AObj.grow 9 1 Bytes [] AL.Fnv.rowS (List.replicate (min (((List.count (k : UInt8) s : Nat) : Int) + 1) ((List.length s : Int) + 1)).toNat []))] 66 [(0, vc (st s)), (1, vc (st [k])), (2, vc (i6 0)), (3, vc (i6 (min (((List.count (k : UInt8) s : Nat) : Int) + 1) ((List.length s : Int) + 1)))), (9, vo 31)] [(31, AObj.grow 9 1 Bytes [] AL.Fnv.rowS (List.replicate (min (((List.count (k : UInt8) s : Nat) : Int) + 1) ((List.length s : Int) + 1)).toNat []))] ⟨(show 0 ≤ min (((List.count (k : UInt8) s : Nat) : Int) + 1) ((List.length s : Int) + 1) from (by omega)), (show min (((List.count (k : UInt8) s : Nat) : Int) + 1) ((List.length s : Int) + 1) ≤ min (((List.count (k : UInt8) s : Nat) : Int) + 1) ((List.length s : Int) + 1) from (by omega)), (show (16 : Int) * (min (((List.count (k : UInt8) s : Nat) : Int) + 1) ((List.length s : Int) + 1)) ≤ 281474976710656 from (by omega)), (show min (((List.count (k : UInt8) s : Nat) : Int) + 1) ((List.length s : Int) + 1) ≤ 9223372036854775807 from (by omega)), (⟨_, rfl, rfl⟩)⟩ ?_
 refine gS [] [InR .i64 ((min (((List.count (k : UInt8) s : Nat) : Int) + 1) ((List.length s : Int) + 1)) - 1)] 66 [(0, vc (st s)), (1, vc (st [k])), (2, vc (i6 0)), (3, vc (i6 ((min (((List.count (k : UInt8) s : Nat) : Int) + 1) ((List.length s : Int) + 1)) - 1))), (9, vo 31)] [(31, AObj.grow 9 1 Bytes [] AL.Fnv.rowS (List.replicate (min (((List.count (k : UInt8) s : Nat) : Int) + 1) ((List.length s : Int) + 1)).toNat []))] (show InR .i64 ((min (((List.count (k : UInt8) s : Nat) : Int) + 1) ((List.length s : Int) + 1)) - 1) from (inR64 (by omega) (by omega))) ?_
 refine gS [] [] 66 [(0, vc (st s)), (1, vc (st [k])), (2, vc (i6 0)), (3, vc (i6 ((min (((List.count (k : UInt8) s : Nat) : Int) + 1) ((List.length s : Int) + 1)) - 1))), (9, vo 31), (10, vc (i6 0))] [(31, AObj.grow 9 1 Bytes [] AL.Fnv.rowS (List.replicate (min (((List.count (k : UInt8) s : Nat) : Int) + 1) ((List.length s : Int) + 1)).toNat []))] trivial ?_
 refine gQ ?_
 refine AMx.block ?_
 refine AMx.ent (s' := AS.lst 66 [(0, vc (st s)), (1, vc (st [k])), (2, vc (i6 0)), (3, vc (i6 ((min (((List.count (k : UInt8) s : Nat) : Int) + 1) ((List.length s : Int) + 1)) - 1))), (9, vo 31), (10, vc (i6 0))] [(31, AObj.grow 9 1 Bytes [] AL.Fnv.rowS (List.replicate (min (((List.count (k : UInt8) s : Nat) : Int) + 1) ((List.length s : Int) + 1)).toNat []))]) (ent_proj [0, 1, 2, 3, 9, 10] [31]) ?_
 refine AMx.loop (fun mm ss => ∃ (o : List Bytes) (c : Bytes), (splitC k s = o ++ splitC k c ∧ c.length ≤ s.length) ∧ mm = c.length ∧ ss = AS.lst 66 [(0, vc (st c)), (1, vc (st [k])), (2, vc (i6 0)), (3, vc (i6 ((min (((List.count (k : UInt8) s : Nat) : Int) + 1) ((List.length s : Int) + 1)) - 1))), (9, vo 31), (10, vc (i6 (List.length o : Int)))] [(31, AObj.grow 9 1 Bytes [] AL.Fnv.rowS (o ++ List.replicate (splitC k c).length []))]) ⟨[], s, ?_, rfl, ?_⟩ ?_
 · exact ⟨rfl, Nat.le_refl _⟩
 · rw [hn]; rfl
 rintro mm ss ⟨o, c, ⟨hP, hL⟩, rfl, rfl⟩
 refine gQ ?_
 refine gS [] [] 66 [(0, vc (st c)), (1, vc (st [k])), (2, vc (i6 0)), (3, vc (i6 ((min (((List.count (k : UInt8) s : Nat) : Int) + 1) ((List.length s : Int) + 1)) - 1))), (9, vo 31), (10, vc (i6 (List.length o : Int))), (36, vc (bo (decide ((List.length o : Int) < (min (((List.count (k : UInt8) s : Nat) : Int) + 1) ((List.length s : Int) + 1)) - 1))))] [(31, AObj.grow 9 1 Bytes [] AL.Fnv.rowS (o ++ List.replicate (splitC k c).length []))] trivial ?_
 refine gC ((List.length o : Int) < (min (((List.count (k : UInt8) s : Nat) : Int) + 1) ((List.length s : Int) + 1)) - 1) (fun hc4 => ?_) fun hc4 => ?_
 ·
  refine AMx.skip ?_
  refine AMx.block ?_
  refine gS [(2, CE.call [] [] (vc (i6 (Go.Lib.indexByte c k))) [])] [Spec Tryz.prog 80 [tc (st c), tc (st [k])] (ofH []) (vc (i6 (Go.Lib.indexByte c k))) (ofH [])] 66 [(0, vc (st c)), (1, vc (st [k])), (2, vc (i6 0)), (3, vc (i6 ((min (((List.count (k : UInt8) s : Nat) : Int) + 1) ((List.length s : Int) + 1)) - 1))), (9, vo 31), (10, vc (i6 (List.length o : Int))), (11, vc (i6 (Go.Lib.indexByte c k)))] [(31, AObj.grow 9 1 Bytes [] AL.Fnv.rowS (o ++ List.replicate (splitC k c).length []))] (AL.Sep.Index_c k c) ?_
  refine gQ ?_
  refine gS [] [] 66 [(0, vc (st c)), (1, vc (st [k])), (2, vc (i6 0)), (3, vc (i6 ((min (((List.count (k : UInt8) s : Nat) : Int) + 1) ((List.length s : Int) + 1)) - 1))), (9, vo 31), (10, vc (i6 (List.length o : Int))), (11, vc (i6 (Go.Lib.indexByte c k))), (41, vc (bo (decide (Go.Lib.indexByte c k < 0))))] [(31, AObj.grow 9 1 Bytes [] AL.Fnv.rowS (o ++ List.replicate (splitC k c).length []))] trivial ?_
  refine gC (Go.Lib.indexByte c k < 0) (fun hc5 => ?_) fun hc5 => ?_
  ·
   refine AMx.exit ?_
   refine AMx.code_exit ?_
   refine AMx.blk_pass rfl ?_
   refine AMx.inv_exit ?_
   refine AMx.blk_exit ?_
   refine gS [(4, CE.obj (AObj.grow 9 1 Bytes [] AL.Fnv.rowS (List.set (o ++ List.replicate (splitC k c).length []) (List.length o) c)))] [(0 : Int) ≤ (List.length o : Int), (List.length o : Int) < List.length (o ++ List.replicate (splitC k c).length [] : List Bytes), StoreC (List.length o) 0 [.s (st c)] (AObj.grow 9 1 Bytes [] AL.Fnv.rowS (o ++ List.replicate (splitC k c).length [])) (AObj.grow 9 1 Bytes [] AL.Fnv.rowS (List.set (o ++ List.replicate (splitC k c).length []) (List.length o) c))] 66 [(9, vo 31), (10, vc (i6 (List.length o : Int)))] [(31, AObj.grow 9 1 Bytes [] AL.Fnv.rowS (List.set (o ++ List.replicate (splitC k c).length []) (List.length o) c))] ⟨(show (0 : Int) ≤ (List.length o : Int) from (by omega)), (show (List.length o : Int) < List.length (o ++ List.replicate (splitC k c).length [] : List Bytes) from (by first | omega | (have hx := index_rng k c; first | omega | (simp only [List.length_cons, List.length_nil]; omega) | (have hz := gen_le hP; first | omega | (simp only [List.length_append, List.length_replicate, List.length_set]; omega))))), (⟨c, rfl, by first | omega | (have hx := index_rng k c; first | omega | (simp only [List.length_cons, List.length_nil]; omega) | (have hz := gen_le hP; first | omega | (simp only [List.length_append, List.length_replicate, List.length_set]; omega))), rfl⟩)⟩ ?_
   refine gS [] [InR .i64 ((List.length o : Int) + 1), 0 ≤ (List.length o : Int) + 1, (List.length o : Int) + 1 ≤ (List.length (List.set (o ++ List.replicate (splitC k c).length []) (List.length o) c : List Bytes) : Int)] 66 [(8, vo 65)] [(65, AObj.grow 9 1 Bytes [] AL.Fnv.rowS (List.take ((List.length o) + 1) (List.set (o ++ List.replicate (splitC k c).length []) (List.length o) c)))] ⟨(show InR .i64 ((List.length o : Int) + 1) from (inR64 (by omega) (by omega))), (show 0 ≤ (List.length o : Int) + 1 from (by omega)), (show (List.length o : Int) + 1 ≤ (List.length (List.set (o ++ List.replicate (splitC k c).length []) (List.length o) c : List Bytes) : Int) from (by first | omega | (have hx := index_rng k c; first | omega | (simp only [List.length_cons, List.length_nil]; omega) | (have hz := gen_le hP; first | omega | (simp only [List.length_append, List.length_replicate, List.length_set]; omega)))))⟩ ?_
   refine AMx.ent (s' := AS.lst 66 [(8, vc (AL.Fnv.slS (List.take ((List.length o) + 1) (List.set (o ++ List.replicate (splitC k c).length []) (List.length o) c))))] []) (ent_freeze (id := 65) (T := 9) (by kernel_rfl)) ?_
   exact gT (vc (AL.Fnv.slS (List.take ((List.length o) + 1) (List.set (o ++ List.replicate (splitC k c).length []) (List.length o) c)))) (by rw [gen_end hP (by first | exact index_none (by omega) | exact gen_last hP (by omega))])
  ·
   refine AMx.skip ?_
   refine gS [(8, CE.obj (AObj.grow 9 1 Bytes [] AL.Fnv.rowS (List.set (o ++ List.replicate (splitC k c).length []) (List.length o) (List.take ((Go.Lib.indexByte c k) + 0).toNat c))))] [InR .i64 ((Go.Lib.indexByte c k) + 0), 0 ≤ (Go.Lib.indexByte c k) + 0, (Go.Lib.indexByte c k) + 0 ≤ List.length c, (0 : Int) ≤ (List.length o : Int), (List.length o : Int) < List.length (o ++ List.replicate (splitC k c).length [] : List Bytes), StoreC (List.length o) 0 [.s (st (List.take ((Go.Lib.indexByte c k) + 0).toNat c))] (AObj.grow 9 1 Bytes [] AL.Fnv.rowS (o ++ List.replicate (splitC k c).length [])) (AObj.grow 9 1 Bytes [] AL.Fnv.rowS (List.set (o ++ List.replicate (splitC k c).length []) (List.length o) (List.take ((Go.Lib.indexByte c k) + 0).toNat c)))] 66 [(0, vc (st c)), (1, vc (st [k])), (2, vc (i6 0)), (3, vc (i6 ((min (((List.count (k : UInt8) s : Nat) : Int) + 1) ((List.length s : Int) + 1)) - 1))), (9, vo 31), (10, vc (i6 (List.length o : Int))), (11, vc (i6 (Go.Lib.indexByte c k)))] [(31, AObj.grow 9 1 Bytes [] AL.Fnv.rowS (List.set (o ++ List.replicate (splitC k c).length []) (List.length o) (List.take ((Go.Lib.indexByte c k) + 0).toNat c)))] ⟨(show InR .i64 ((Go.Lib.indexByte c k) + 0) from (inR64 (by omega) (by first | omega | (have hx := index_rng k c; first | omega | (simp only [List.length_cons, List.length_nil]; omega) | (have hz := gen_le hP; first | omega | (simp only [List.length_append, List.length_replicate, List.length_set]; omega)))))), (show 0 ≤ (Go.Lib.indexByte c k) + 0 from (by omega)), (show (Go.Lib.indexByte c k) + 0 ≤ List.length c from (by first | omega | (have hx := index_rng k c; first | omega | (simp only [List.length_cons, List.length_nil]; omega) | (have hz := gen_le hP; first | omega | (simp only [List.length_append, List.length_replicate, List.length_set]; omega))))), (show (0 : Int) ≤ (List.length o : Int) from (by omega)), (show (List.length o : Int) < List.length (o ++ List.replicate (splitC k c).length [] : List Bytes) from (by first | omega | (have hx := index_rng k c; first | omega | (simp only [List.length_cons, List.length_nil]; omega) | (have hz := gen_le hP; first | omega | (simp only [List.length_append, List.length_replicate, List.length_set]; omega))))), (⟨List.take ((Go.Lib.indexByte c k) + 0).toNat c, rfl, by first | omega | (have hx := index_rng k c; first | omega | (simp only [List.length_cons, List.length_nil]; omega) | (have hz := gen_le hP; first | omega | (simp only [List.length_append, List.length_replicate, List.length_set]; omega))), rfl⟩)⟩ ?_
   refine gS [] [InR .i64 ((Go.Lib.indexByte c k) + (List.length ([k] : List UInt8) : Int)), 0 ≤ (Go.Lib.indexByte c k) + (List.length ([k] : List UInt8) : Int), (Go.Lib.indexByte c k) + (List.length ([k] : List UInt8) : Int) ≤ List.length c] 66 [(0, vc (st (List.drop ((Go.Lib.indexByte c k) + (List.length ([k] : List UInt8) : Int)).toNat c))), (1, vc (st [k])), (2, vc (i6 0)), (3, vc (i6 ((min (((List.count (k : UInt8) s : Nat) : Int) + 1) ((List.length s : Int) + 1)) - 1))), (9, vo 31), (10, vc (i6 (List.length o : Int)))] [(31, AObj.grow 9 1 Bytes [] AL.Fnv.rowS (List.set (o ++ List.replicate (splitC k c).length []) (List.length o) (List.take ((Go.Lib.indexByte c k) + 0).toNat c)))] ⟨(show InR .i64 ((Go.Lib.indexByte c k) + (List.length ([k] : List UInt8) : Int)) from (inR64 (by omega) (by first | omega | (have hx := index_rng k c; first | omega | (simp only [List.length_cons, List.length_nil]; omega) | (have hz := gen_le hP; first | omega | (simp only [List.length_append, List.length_replicate, List.length_set]; omega)))))), (show 0 ≤ (Go.Lib.indexByte c k) + (List.length ([k] : List UInt8) : Int) from (by omega)), (show (Go.Lib.indexByte c k) + (List.length ([k] : List UInt8) : Int) ≤ List.length c from (by first | omega | (have hx := index_rng k c; first | omega | (simp only [List.length_cons, List.length_nil]; omega) | (have hz := gen_le hP; first | omega | (simp only [List.length_append, List.length_replicate, List.length_set]; omega)))))⟩ ?_
   refine gR [] [InR .i64 ((List.length o : Int) + 1)] 66 [(0, vc (st (List.drop ((Go.Lib.indexByte c k) + (List.length ([k] : List UInt8) : Int)).toNat c))), (1, vc (st [k])), (2, vc (i6 0)), (3, vc (i6 ((min (((List.count (k : UInt8) s : Nat) : Int) + 1) ((List.length s : Int) + 1)) - 1))), (9, vo 31), (10, vc (i6 ((List.length o : Int) + 1)))] [(31, AObj.grow 9 1 Bytes [] AL.Fnv.rowS (List.set (o ++ List.replicate (splitC k c).length []) (List.length o) (List.take ((Go.Lib.indexByte c k) + 0).toNat c)))] (show InR .i64 ((List.length o : Int) + 1) from (inR64 (by omega) (by omega))) ?_
   refine AMx.blk ?_
   refine AMx.ent_inv (s' := AS.lst 66 [(0, vc (st (List.drop ((Go.Lib.indexByte c k) + (List.length ([k] : List UInt8) : Int)).toNat c))), (1, vc (st [k])), (2, vc (i6 0)), (3, vc (i6 ((min (((List.count (k : UInt8) s : Nat) : Int) + 1) ((List.length s : Int) + 1)) - 1))), (9, vo 31), (10, vc (i6 ((List.length o : Int) + 1)))] [(31, AObj.grow 9 1 Bytes [] AL.Fnv.rowS (List.set (o ++ List.replicate (splitC k c).length []) (List.length o) (List.take ((Go.Lib.indexByte c k) + 0).toNat c)))]) (ent_proj [0, 1, 2, 3, 9, 10] [31]) ?_
   refine AMx.inv ⟨_, ?_, o ++ [List.take (Go.Lib.indexByte c k).toNat c], List.drop ((Go.Lib.indexByte c k).toNat + 1) c, ?_, rfl, ?_⟩
   rotate_left
   · exact ⟨gen_inv hP (by omega), by rw [List.length_drop]; omega⟩
   · rw [show (Go.Lib.indexByte c k + (0 : Int)).toNat = (Go.Lib.indexByte c k).toNat by omega, show (Go.Lib.indexByte c k + (List.length ([k] : List UInt8) : Int)).toNat = (Go.Lib.indexByte c k).toNat + 1 by simp only [List.length_cons, List.length_nil]; omega, gen_step (by omega), List.length_append]; rfl
   · have hx := index_some (s := c) (c := k) (by omega); rw [List.length_drop]; omega
 ·
  refine AMx.exit ?_
  refine AMx.code_exit ?_
  refine AMx.inv_exit ?_
  refine AMx.blk_exit ?_
  refine gS [(4, CE.obj (AObj.grow 9 1 Bytes [] AL.Fnv.rowS (List.set (o ++ List.replicate (splitC k c).length []) (List.length o) c)))] [(0 : Int) ≤ (List.length o : Int), (List.length o : Int) < List.length (o ++ List.replicate (splitC k c).length [] : List Bytes), StoreC (List.length o) 0 [.s (st c)] (AObj.grow 9 1 Bytes [] AL.Fnv.rowS (o ++ List.replicate (splitC k c).length [])) (AObj.grow 9 1 Bytes [] AL.Fnv.rowS (List.set (o ++ List.replicate (splitC k c).length []) (List.length o) c))] 66 [(9, vo 31), (10, vc (i6 (List.length o : Int)))] [(31, AObj.grow 9 1 Bytes [] AL.Fnv.rowS (List.set (o ++ List.replicate (splitC k c).length []) (List.length o) c))] ⟨(show (0 : Int) ≤ (List.length o : Int) from (by omega)), (show (List.length o : Int) < List.length (o ++ List.replicate (splitC k c).length [] : List Bytes) from (by first | omega | (have hx := index_rng k c; first | omega | (simp only [List.length_cons, List.length_nil]; omega) | (have hz := gen_le hP; first | omega | (simp only [List.length_append, List.length_replicate, List.length_set]; omega))))), (⟨c, rfl, by first | omega | (have hx := index_rng k c; first | omega | (simp only [List.length_cons, List.length_nil]; omega) | (have hz := gen_le hP; first | omega | (simp only [List.length_append, List.length_replicate, List.length_set]; omega))), rfl⟩)⟩ ?_
  refine gS [] [InR .i64 ((List.length o : Int) + 1), 0 ≤ (List.length o : Int) + 1, (List.length o : Int) + 1 ≤ (List.length (List.set (o ++ List.replicate (splitC k c).length []) (List.length o) c : List Bytes) : Int)] 66 [(8, vo 65)] [(65, AObj.grow 9 1 Bytes [] AL.Fnv.rowS (List.take ((List.length o) + 1) (List.set (o ++ List.replicate (splitC k c).length []) (List.length o) c)))] ⟨(show InR .i64 ((List.length o : Int) + 1) from (inR64 (by omega) (by first | omega | (have hx := index_rng k c; first | omega | (simp only [List.length_cons, List.length_nil]; omega) | (have hz := gen_le hP; first | omega | (simp only [List.length_append, List.length_replicate, List.length_set]; omega)))))), (show 0 ≤ (List.length o : Int) + 1 from (by omega)), (show (List.length o : Int) + 1 ≤ (List.length (List.set (o ++ List.replicate (splitC k c).length []) (List.length o) c : List Bytes) : Int) from (by first | omega | (have hx := index_rng k c; first | omega | (simp only [List.length_cons, List.length_nil]; omega) | (have hz := gen_le hP; first | omega | (simp only [List.length_append, List.length_replicate, List.length_set]; omega)))))⟩ ?_
  refine AMx.ent (s' := AS.lst 66 [(8, vc (AL.Fnv.slS (List.take ((List.length o) + 1) (List.set (o ++ List.replicate (splitC k c).length []) (List.length o) c))))] []) (ent_freeze (id := 65) (T := 9) (by kernel_rfl)) ?_
  exact gT (vc (AL.Fnv.slS (List.take ((List.length o) + 1) (List.set (o ++ List.replicate (splitC k c).length []) (List.length o) c)))) (by rw [gen_end hP (by first | exact index_none (by omega) | exact gen_last hP (by omega))])
theorem f33_body : Tryz.f33.body = some (.seq (.region 0 (rg Tryz.f33 0) false) (.seq (.region 1 (rg Tryz.f33 1) false) (.ret))) := by kernel_rfl
set_option maxRecDepth 100000 in
set_option maxHeartbeats 8000000 in
theorem Split_c (k : UInt8) (s : Bytes) (hb : s.length ≤ 100000) : Pure Tryz.prog 33 [tc (st s), tc (st [k])] (vc (AL.Fnv.slS (splitC k s))) := by
 refine Pure.of_body Tryz.func33 f33_body (by kernel_rfl) Tryz.ntmps33 (by kernel_rfl) (by kernel_rfl) ?_
 refine gS [] [] 8 [(0, vc (st s)), (1, vc (st [k]))] [] trivial ?_
 refine gS [(2, CE.call [] [] (vc (AL.Fnv.slS (AL.Sep.splitC k s))) [])] [Spec Tryz.prog 57 [tc (st s), tc (st [k]), tc (i6 0), tc (i6 (-1))] (ofH []) (vc (AL.Fnv.slS (AL.Sep.splitC k s))) (ofH [])] 8 [(4, vc (AL.Fnv.slS (AL.Sep.splitC k s)))] [] (AL.Sep.genSplit_c k s (by omega)) ?_
 exact gT (vc (AL.Fnv.slS (AL.Sep.splitC k s))) rfl
theorem f98_body : Tryz.f98.body = some (.seq (.region 0 (rg Tryz.f98 0) false) (.seq (.seq (.region 1 (rg Tryz.f98 1) false) (.seq (.region 2 (rg Tryz.f98 2) false) (.cond (.tmp 12) (.seq (.region 3 (rg Tryz.f98 3) true) (.ret)) (.skip)))) (.seq (.region 4 (rg Tryz.f98 4) false) (.ret)))) := by kernel_rfl
set_option maxRecDepth 100000 in
set_option maxHeartbeats 8000000 in
theorem LCut_c (k : UInt8) (s : Bytes) : Pure Tryz.prog 98 [tc (st s), tc (st [k])] (AV.tup [tc (st ((cutAt k s).1)), tc (st ((cutAt k s).2.1)), tc (bo ((cutAt k s).2.2))]) := by
 refine Pure.of_body Tryz.func98 f98_body (by kernel_rfl) Tryz.ntmps98 (by kernel_rfl) (by kernel_rfl) ?_
 refine AMx.str 0 (b := s) rfl (fun hl => ?_)
 simp only [maxLen] at hl
 refine gS [] [] 23 [(0, vc (st s)), (1, vc (st [k]))] [] trivial ?_
 refine gQ ?_
 refine gS [(2, CE.call [] [] (vc (i6 (Go.Lib.indexByte s k))) [])] [Spec Tryz.prog 97 [tc (st s), tc (st [k])] (ofH []) (vc (i6 (Go.Lib.indexByte s k))) (ofH [])] 23 [(0, vc (st s)), (1, vc (st [k])), (7, vc (i6 (Go.Lib.indexByte s k)))] [] (AL.Sep.IndexL_c k s) ?_
 refine gS [] [] 23 [(0, vc (st s)), (1, vc (st [k])), (7, vc (i6 (Go.Lib.indexByte s k))), (12, vc (bo (decide (0 ≤ Go.Lib.indexByte s k))))] [] trivial ?_
 refine gC (0 ≤ Go.Lib.indexByte s k) (fun hc1 => ?_) fun hc1 => ?_
 ·
  refine gY [] [] [0 ≤ Go.Lib.indexByte s k, Go.Lib.indexByte s k ≤ List.length s, InR .i64 ((Go.Lib.indexByte s k) + (List.length ([k] : List UInt8) : Int)), 0 ≤ (Go.Lib.indexByte s k) + (List.length ([k] : List UInt8) : Int), (Go.Lib.indexByte s k) + (List.length ([k] : List UInt8) : Int) ≤ List.length s] 23 [(4, vc (st (List.take (Go.Lib.indexByte s k).toNat s))), (5, vc (st (List.drop ((Go.Lib.indexByte s k) + (List.length ([k] : List UInt8) : Int)).toNat s))), (6, vc (bo true))] [] mixed ⟨(show 0 ≤ Go.Lib.indexByte s k from (by omega)), (show Go.Lib.indexByte s k ≤ List.length s from (by first | omega | (have hi := index_rng k s; have h1 : List.length ([k] : List UInt8) = 1 := rfl; omega))), (show InR .i64 ((Go.Lib.indexByte s k) + (List.length ([k] : List UInt8) : Int)) from (inR64 (by omega) (by first | omega | (have hi := index_rng k s; have h1 : List.length ([k] : List UInt8) = 1 := rfl; omega)))), (show 0 ≤ (Go.Lib.indexByte s k) + (List.length ([k] : List UInt8) : Int) from (by omega)), (show (Go.Lib.indexByte s k) + (List.length ([k] : List UInt8) : Int) ≤ List.length s from (by first | omega | (have hi := index_rng k s; have h1 : List.length ([k] : List UInt8) = 1 := rfl; omega)))⟩ ?_
  exact gT (AV.tup [tc (st (List.take (Go.Lib.indexByte s k).toNat s)), tc (st (List.drop ((Go.Lib.indexByte s k) + (List.length ([k] : List UInt8) : Int)).toNat s)), tc (bo true)]) (by rw [show cutAt k s = (List.take (Go.Lib.indexByte s k).toNat s, List.drop ((Go.Lib.indexByte s k) + (List.length ([k] : List UInt8) : Int)).toNat s, true) from by unfold cutAt; first | (rw [if_pos (by assumption), show (Go.Lib.indexByte s k + (List.length ([k] : List UInt8) : Int)).toNat = (Go.Lib.indexByte s k).toNat + 1 by simp only [List.length_cons, List.length_nil]; omega]; done) | (rw [if_neg (by assumption)])])
 ·
  refine AMx.skip ?_
  refine gS [] [] 23 [(4, vc (st s)), (5, vc (st [])), (6, vc (bo false))] [] trivial ?_
  exact gT (AV.tup [tc (st s), tc (st []), tc (bo false)]) (by rw [show cutAt k s = (s, [], false) from by unfold cutAt; first | (rw [if_pos (by assumption), show (Go.Lib.indexByte s k + (List.length ([k] : List UInt8) : Int)).toNat = (Go.Lib.indexByte s k).toNat + 1 by simp only [List.length_cons, List.length_nil]; omega]; done) | (rw [if_neg (by assumption)])])
theorem f81_body : Tryz.f81.body = some (.seq (.region 0 (rg Tryz.f81 0) false) (.seq (.region 1 (rg Tryz.f81 1) false) (.ret))) := by kernel_rfl
set_option maxRecDepth 100000 in
set_option maxHeartbeats 8000000 in
theorem Cut_c (k : UInt8) (s : Bytes) : Pure Tryz.prog 81 [tc (st s), tc (st [k])] (AV.tup [tc (st ((cutAt k s).1)), tc (st ((cutAt k s).2.1)), tc (bo ((cutAt k s).2.2))]) := by
 refine Pure.of_body Tryz.func81 f81_body (by kernel_rfl) Tryz.ntmps81 (by kernel_rfl) (by kernel_rfl) ?_
 refine AMx.str 0 (b := s) rfl (fun hl => ?_)
 simp only [maxLen] at hl
 refine gS [] [] 13 [(0, vc (st s)), (1, vc (st [k]))] [] trivial ?_
 refine gS [(2, CE.call [] [] (AV.tup [tc (st ((AL.Sep.cutAt k s).1)), tc (st ((AL.Sep.cutAt k s).2.1)), tc (bo ((AL.Sep.cutAt k s).2.2))]) [])] [Spec Tryz.prog 98 [tc (st s), tc (st [k])] (ofH []) (AV.tup [tc (st ((AL.Sep.cutAt k s).1)), tc (st ((AL.Sep.cutAt k s).2.1)), tc (bo ((AL.Sep.cutAt k s).2.2))]) (ofH [])] 13 [(4, vc (st ((AL.Sep.cutAt k s).1))), (5, vc (st ((AL.Sep.cutAt k s).2.1))), (6, vc (bo ((AL.Sep.cutAt k s).2.2)))] [] (AL.Sep.LCut_c k s) ?_
 exact gT (AV.tup [tc (st ((AL.Sep.cutAt k s).1)), tc (st ((AL.Sep.cutAt k s).2.1)), tc (bo ((AL.Sep.cutAt k s).2.2))]) rfl
end AL.Sep
