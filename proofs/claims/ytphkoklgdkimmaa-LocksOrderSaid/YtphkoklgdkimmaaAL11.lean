/- An abstract logic, 11: the operations that make or write memory. No condition. -/
import Derived.Test.YtphkoklgdkimmaaAL10
import Derived.Lib.AppendStr
import Derived.Great.BuildSlice
namespace AL
open Go
set_option linter.unusedVariables false

def mkΓ (Γ : Ctx) (d g : Nat) (v : Value) : Ctx := ⟨Γ.I, fun j => bif Nat.beq j d then g else Γ.ρ j, fun j => bif Nat.beq j d then v else Γ.η j⟩

theorem mk_ρ (Γ d g v) : (mkΓ Γ d g v).ρ d = g := by simp [mkΓ, Nat.beq_refl]
theorem mk_η (Γ d g v) : (mkΓ Γ d g v).η d = v := by simp [mkΓ, Nat.beq_refl]
theorem mk_agree (Γ d g v) : Agree (fun id => id = d) Γ (mkΓ Γ d g v) := fun id h => by simp [mkΓ, beq_false h]

/-- Behind a step that makes one owned object, or writes one: 'hin': what it owned. -/
structure Post (Γ : Ctx) (hin : Nat → Option AObj) (w : World) (Γ' : Ctx) (new : List (Nat × AObj)) (w' : World) : Prop where
  heap : HeapOk Γ' (ofH new) w'
  g : GOk ⟨w, prOf Γ hin w, Γ.I, Γ.ρ, Γ.η⟩ Γ' (ofH new) w'
  agree : Agree (fun id => ofH new id ≠ none ∧ hin id = none) Γ Γ'

theorem ofH_one {d : Nat} {o : AObj} {j o'} : ofH [(d, o)] j = some o' ↔ j = d ∧ o' = o := by
  simp only [ofH, H0]
  by_cases h : j = d
  · subst h; rw [Nat.beq_refl]; simp [eq_comm]
  · rw [beq_false h]; simp [h]

theorem new_post {Γ hin w d o g v w'} (hh : HeapOk Γ hin w) (hn : hin d = none) (os : w'.os = w.os) (tp : w'.tape = w.tape) (ou : w'.output = w.output) (sz : w.heap.size ≤ w'.heap.size)
    (hk : ∀ b, prOf Γ hin w b → w'.heap[b]? = w.heap[b]?) (hm : MO (mkΓ Γ d g v) w' d o) (hb : ∀ b, fp (mkΓ Γ d g v) d o b → b < w'.heap.size ∧ ¬ Γ.I b ∧ ¬ prOf Γ hin w b) :
    Post Γ hin w (mkΓ Γ d g v) [(d, o)] w' := by
  refine ⟨⟨fun j o' hj => ?_, fun j o' b hj hf => ?_, fun j o1 j' o2 b hj hj' _ _ => ?_, fun b hb' => ?_⟩, ⟨os, tp, ou, sz, fun b hb' => hb'.1, hk, fun b hb' => hb', fun b _ hb' => hb', fun j o' b hj hf => ?_⟩, fun j hj => ?_⟩
  · obtain ⟨rfl, rfl⟩ := ofH_one.1 hj; exact hm
  · obtain ⟨rfl, rfl⟩ := ofH_one.1 hj; have := hb b hf; exact ⟨this.1, this.2.1⟩
  · obtain ⟨rfl, _⟩ := ofH_one.1 hj; obtain ⟨rfl, _⟩ := ofH_one.1 hj'; rfl
  · exact Nat.lt_of_lt_of_le (hh.ilt b hb') sz
  · obtain ⟨rfl, rfl⟩ := ofH_one.1 hj; exact (hb b hf).2.2
  · refine mk_agree Γ d g v j fun e => hj ⟨?_, by subst e; exact hn⟩
    subst e; rw [ofH_one.2 ⟨rfl, rfl⟩]; simp

theorem ext_of_post {Γ hin w d o g v w'} (hh : HeapOk Γ hin w) (p : Post Γ hin w (mkΓ Γ d g v) [(d, o)] w') : Ext (fun id => id = d) Γ w (mkΓ Γ d g v) w' :=
  ⟨p.g.sub, fun b hb => p.g.keep b ⟨hh.ilt b hb, fun id o hid hf => (hh.lt id o b hid hf).2 hb⟩, mk_agree Γ d g v⟩

theorem heap0 {Γ obj w} (hh : HeapOk Γ obj w) : HeapOk Γ H0 w := ⟨fun _ _ h => (by cases h), fun _ _ _ h => (by cases h), fun _ _ _ _ _ h => (by cases h), hh.ilt⟩

theorem heap_sub {Γ obj hin w} (hh : HeapOk Γ obj w) (hs : ∀ id o, hin id = some o → obj id = some o) : HeapOk Γ hin w :=
  ⟨fun id o h => hh.objs id o (hs id o h), fun id o b h => hh.lt id o b (hs id o h), fun id o id' o' b h h' => hh.inj id o id' o' b (hs _ _ h) (hs _ _ h'), hh.ilt⟩

theorem alloc_size (w : World) (o : Obj) : (w.alloc o).heap.size = w.heap.size + 1 := by simp
theorem alloc_new (w : World) (o : Obj) : (w.alloc o).heap[w.heap.size]? = some o := heap_alloc_new w o
theorem alloc_old (w : World) (o : Obj) {b : Nat} (h : b < w.heap.size) : (w.alloc o).heap[b]? = w.heap[b]? := by
  show (w.heap.push o)[b]? = _
  rw [Array.getElem?_push, if_neg (by omega)]

/-- A new block of cells. -/
theorem alloc_row {Γ w d T} {cells : List AC} {cs : Array Value} (hh : HeapOk Γ H0 w) (hm : MCs Γ w cells cs.toList) (hd : acsHas d cells = false) :
    Post Γ H0 w (mkΓ Γ d w.heap.size undef) [(d, .row cells)] (w.alloc (.cells cs T)) := by
  refine new_post hh rfl rfl rfl rfl (by rw [alloc_size]; omega) (fun b hb => alloc_old w _ hb.1) ?_ fun b hb => ?_
  · refine ⟨cs, T, by rw [mk_ρ]; exact alloc_new w _, ?_⟩
    have hx : Ext (fun id => id = d) Γ w (mkΓ Γ d w.heap.size undef) (w.alloc (.cells cs T)) := ⟨fun b hb => hb, fun b hb => alloc_old w _ (hh.ilt b hb), mk_agree Γ d _ _⟩
    exact MCs.ext hx (fun e he => by subst he; exact hd) hm
  · obtain ⟨h1, _⟩ := hb
    rw [mk_ρ] at h1
    subst h1
    refine ⟨by rw [alloc_size]; omega, fun hi => by have := hh.ilt _ hi; omega, fun hp => by have := hp.1; omega⟩

/-- The rows of a list, laid flat. -/
def flat (k : Nat) {α : Type} (row : α → Nat → SC) : List α → List AC
  | [] => []
  | x :: l => ofS k (row x) ++ flat k row l

theorem length_flat (k : Nat) {α : Type} (row : α → Nat → SC) (l : List α) : (flat k row l).length = l.length * k := by
  induction l with
  | nil => simp [flat]
  | cons x l ih => simp [flat, length_ofS, ih, Nat.add_mul, Nat.add_comm]

theorem get_flat {Γ w} (k : Nat) {α : Type} (row : α → Nat → SC) : ∀ (l : List α) (vs : List Value), MCs Γ w (flat k row l) vs → ∀ j x, l[j]? = some x → ∀ i, i < k → ∃ u, vs[j * k + i]? = some u ∧ MS Γ.I w (row x i) u
  | [], vs, _, j, x, hx, _, _ => by simp at hx
  | y :: l, vs, hm, 0, x, hx, i, hi => by
    simp at hx; subst hx
    have : (flat k row (y :: l))[i]? = some (.s (row y i)) := by
      simp only [flat]
      rw [List.getElem?_append_left (by rw [length_ofS]; exact hi)]
      simp [ofS, hi]
    obtain ⟨u, hu, hmu⟩ := hm.get this
    exact ⟨u, by simpa using hu, hmu⟩
  | y :: l, vs, hm, j + 1, x, hx, i, hi => by
    have h1 := hm.drop k
    have h2 : (flat k row (y :: l)).drop k = flat k row l := by
      simp only [flat]; rw [List.drop_append_of_le_length (by rw [length_ofS]; exact Nat.le_refl _), List.drop_of_length_le (by rw [length_ofS]; exact Nat.le_refl _)]; rfl
    rw [h2] at h1
    obtain ⟨u, hu, hmu⟩ := get_flat k row l _ h1 j x (by simpa using hx) i hi
    rw [List.getElem?_drop] at hu
    exact ⟨u, by rw [Nat.add_mul, Nat.one_mul]; rw [show j * k + k + i = k + (j * k + i) by omega]; exact hu, hmu⟩

theorem mk_flat {Γ w} (k : Nat) {α : Type} (row : α → Nat → SC) : ∀ (l : List α) (vs : List Value), vs.length = l.length * k → (∀ j x, l[j]? = some x → ∀ i, i < k → ∃ u, vs[j * k + i]? = some u ∧ MS Γ.I w (row x i) u) → MCs Γ w (flat k row l) vs
  | [], vs, hl, _ => by
    have : vs = [] := List.eq_nil_of_length_eq_zero (by simpa using hl)
    subst this; trivial
  | x :: l, vs, hl, h => by
    simp only [List.length_cons, Nat.add_mul, Nat.one_mul] at hl
    have e : vs = vs.take k ++ vs.drop k := (List.take_append_drop k vs).symm
    rw [e]
    simp only [flat]
    refine MCs.append (MCs.mk (by simp [length_ofS]; omega) fun i c v h1 h2 => ?_) (mk_flat k row l _ (by simp; omega) fun j y hy i hi => ?_)
    · obtain ⟨hi, rfl⟩ := get_ofS h1
      obtain ⟨u, hu, hm⟩ := h 0 x rfl i hi
      rw [List.getElem?_take_of_lt hi] at h2
      simp only [Nat.zero_mul, Nat.zero_add] at hu
      rw [hu] at h2; cases h2; exact hm
    · obtain ⟨u, hu, hm⟩ := h (j + 1) y (by simpa using hy) i hi
      refine ⟨u, ?_, hm⟩
      rw [List.getElem?_drop]
      rw [show k + (j * k + i) = (j + 1) * k + i by rw [Nat.add_mul]; omega]
      exact hu

/-- A new owned slice, of cap elements, in a new block. -/
theorem alloc_grow {Γ : Ctx} {w w1 : World} {d : Nat} {T : TypeId} {k cap : Nat} {α : Type} {dd : α} {row : α → Nat → SC} {l : List α} {cs : Array Value} (hh : HeapOk Γ H0 w) (hw : w1.heap = w.heap) (ho : w1.os = w.os) (ht : w1.tape = w.tape) (hou : w1.output = w.output)
    (hc : cs.size = cap * k) (hcap : l.length ≤ cap) (hmx : cap ≤ maxLen) (hm : ∀ j x, l[j]? = some x → ∀ i, i < k → ∃ u, cs[j * k + i]? = some u ∧ MS Γ.I w (row x i) u) :
    Post Γ H0 w (mkΓ Γ d w.heap.size (.slice (some ⟨w.heap.size, 0, none⟩) l.length cap)) [(d, .grow T k α dd row l)] (w1.alloc (.cells cs T)) := by
  have hs : (w1.alloc (.cells cs T)).heap.size = w.heap.size + 1 := by rw [alloc_size, hw]
  have hold : ∀ b, b < w.heap.size → (w1.alloc (.cells cs T)).heap[b]? = w.heap[b]? := fun b hb => by rw [alloc_old w1 _ (by rw [hw]; exact hb), hw]
  have hnew : (w1.alloc (.cells cs T)).heap[w.heap.size]? = some (.cells cs T) := by have := alloc_new w1 (.cells cs T); rw [hw] at this; exact this
  refine new_post hh rfl ho ht hou (by rw [hs]; omega) (fun b hb => hold b hb.1) ?_ fun b hb => ?_
  · refine .inr ⟨cap, cs, by rw [mk_η, mk_ρ], by rw [mk_ρ]; exact hnew, hcap, hmx, hc, fun j x hx i hi => ?_⟩
    obtain ⟨u, hu, hmu⟩ := hm j x hx i hi
    exact ⟨u, hu, MS.mono (fun b hb => hb) (fun b hb => hold b (hh.ilt b hb)) hmu⟩
  · obtain ⟨h1, _⟩ := hb
    rw [mk_ρ] at h1
    subst h1
    exact ⟨by rw [hs]; omega, fun hi => by have := hh.ilt _ hi; omega, fun hp => by have := hp.1; omega⟩
end AL
