/- An abstract logic, 32: functions of the library that sort and shorten an owned slice, by contracts of theirs. No condition. -/
import Derived.Test.YtphkoklgdkimmaaAL31
import Derived.Sort.Grow
namespace AL
open Go
set_option linter.unusedVariables false

theorem put_heap {α : Type} [Inhabited α] {enc : α → Value} {w : World} {n b : Nat} {d : Array α} {cur : Array Value} {T : TypeId} (h : w.heap[b]? = some (.cells cur T (0, 0))) :
    (Sort.putRow enc (Sort.ahead w n) b 0 d).heap[b]? = some (.cells (Sort.putCells enc 0 d cur) T (0, 0)) := by
  unfold Sort.putRow Sort.mapBlock
  simp only [Sort.ahead, Array.getElem?_modify, if_pos, h, Option.map_some]
  rfl
theorem put_other {α : Type} [Inhabited α] {enc : α → Value} {w : World} {n b k : Nat} {d : Array α} (h : k ≠ b) : (Sort.putRow enc (Sort.ahead w n) b 0 d).heap[k]? = w.heap[k]? := by
  unfold Sort.putRow Sort.mapBlock
  simp only [Sort.ahead, Array.getElem?_modify]
  rw [if_neg (Ne.symm h)]
theorem put_size {α : Type} [Inhabited α] {enc : α → Value} {w : World} {n b : Nat} {d : Array α} : (Sort.putRow enc (Sort.ahead w n) b 0 d).heap.size = w.heap.size := by
  unfold Sort.putRow Sort.mapBlock; simp [Sort.ahead]
theorem put_get {α : Type} [Inhabited α] {enc : α → Value} {l : List α} {cur : Array Value} {j : Nat} {x : α} (h : l[j]? = some x) (hj : j < cur.size) : (Sort.putCells enc 0 l.toArray cur)[j]? = some (enc x) := by
  have hl := (List.getElem?_eq_some_iff.1 h).1
  unfold Sort.putCells
  rw [Array.getElem?_mapIdx, Array.getElem?_eq_getElem hj, Option.map_some, if_pos ⟨Nat.zero_le _, by simpa using hl⟩, Nat.sub_zero]
  congr 2
  rw [getElem!_pos _ j (by simpa using hl)]
  have := (List.getElem?_eq_some_iff.1 h).2
  simpa using this
theorem put_csize {α : Type} [Inhabited α] {enc : α → Value} {d : Array α} {cur : Array Value} : (Sort.putCells enc 0 d cur).size = cur.size := by simp [Sort.putCells]

/-- Elements of one cell, told by 'enc'. -/
structure OneRow (α : Type) [Inhabited α] (row : α → Nat → SC) (enc : α → Value) (good : α → Prop) : Prop where
  ms : ∀ {I w x v}, MS I w (row x 0) v → v = enc x ∧ good x
  put : ∀ {I w x}, good x → MS I w (row x 0) (enc x)

section
variable {P : Program} {f : FuncId} {α : Type} [Inhabited α] {row : α → Nat → SC} {enc : α → Value} {good : α → Prop} {d : α} {T : TypeId} {l : List α}

theorem grow_holds (hr : OneRow α row enc good) {Γ : Ctx} {w : World} {cur : Array Value} {b : Nat} (hb : w.heap[b]? = some (.cells cur T (0, 0)))
    (hm : ∀ j x, l[j]? = some x → ∀ i, i < 1 → ∃ u, cur[j * 1 + i]? = some u ∧ MS Γ.I w (row x i) u) : Sort.Holds enc w b 0 l.toArray ∧ ∀ x ∈ l, good x := by
  constructor
  · intro j hj
    have hj : j < l.length := by simpa using hj
    obtain ⟨u, hu, hms⟩ := hm j l[j] (List.getElem?_eq_getElem hj) 0 (by omega)
    obtain ⟨rfl, _⟩ := hr.ms hms
    refine ⟨?_, ?_⟩
    · rw [Nat.zero_add, cell_of_heap hb]
      have e : j * 1 + 0 = j := by omega
      rw [e] at hu
      rw [hu, getElem!_pos _ j (by simpa using hj)]
      simp
    · unfold World.frozen?
      rw [hb]
      simp
  · intro x hx
    obtain ⟨j, hj⟩ := List.getElem?_of_mem hx
    obtain ⟨u, _, hms⟩ := hm j x hj 0 (by omega)
    exact (hr.ms hms).2

/-- The row turned in place. -/
theorem Spec.inplace (hc : Callable P f) (hr : OneRow α row enc good) {l' : List α} (hlen : l'.length = l.length) (hmem : ∀ x ∈ l', x ∈ l)
    (hcon : ∀ b cap w, Sort.Holds enc w b 0 l.toArray → b < w.heap.size → Calls P f #[.slice (some ⟨b, 0, none⟩) l.length cap] w fun e w' => e = .returned (.tuple #[]) ∧ ∃ n os, w' = Sort.grow (Sort.putRow enc (Sort.ahead w n) b 0 l'.toArray) os)
    (hnil : l = [] → ∀ p cap w, Calls P f #[.slice p 0 cap] w fun e w' => e = .returned (.tuple #[]) ∧ w' = w) (id : Nat) :
    Spec P f [.c (.own id)] (ofH [(id, .grow T 1 α d row l)]) (.tup []) (ofH [(id, .grow T 1 α d row l')]) := by
  refine ⟨hc, fun Γ w cargs hh hm => ?_⟩
  obtain ⟨v, hv⟩ : ∃ v, cargs = #[v] := by
    have := hm.length
    rw [Array.length_toList] at this
    match cargs, this with
    | ⟨[v]⟩, _ => exact ⟨v, rfl⟩
  subst hv
  obtain ⟨⟨hv, _⟩, _⟩ := (show (v = Γ.η id ∧ v.oneCell' = true) ∧ True from hm)
  subst hv
  have ho := hh.objs id _ (ofH_one.2 ⟨rfl, rfl⟩)
  have done : ∀ w', w'.os = w.os → w'.tape = w.tape → w'.output = w.output → w.heap.size ≤ w'.heap.size → (∀ b, b < w.heap.size → ¬ fp Γ id (.grow T 1 α d row l) b → w'.heap[b]? = w.heap[b]?) → MO Γ w' id (.grow T 1 α d row l') →
      ∃ v Γ', Ending.returned (.tuple #[]) = .returned v ∧ MV Γ' (ofH [(id, .grow T 1 α d row l')]) w' (.tup []) v ∧ HeapOk Γ' (ofH [(id, .grow T 1 α d row l')]) w' ∧ GOk ⟨w, prOf Γ (ofH [(id, .grow T 1 α d row l)]) w, Γ.I, Γ.ρ, Γ.η⟩ Γ' (ofH [(id, .grow T 1 α d row l')]) w' ∧
        Agree (fun j => ofH [(id, .grow T 1 α d row l')] j ≠ none ∧ ofH [(id, .grow T 1 α d row l)] j = none) Γ Γ' := by
    intro w' h1 h2 h3 h4 h5 h6
    have hid := ofH_one.2 (⟨rfl, rfl⟩ : id = id ∧ AObj.grow T 1 α d row l = .grow T 1 α d row l)
    have hfp : ∀ b, fp Γ id (.grow T 1 α d row l') b → fp Γ id (.grow T 1 α d row l) b := fun b hb => hb
    refine ⟨_, Γ, rfl, ⟨#[], rfl, trivial⟩, ⟨fun j o hj => ?_, fun j o b hj hb => ?_, fun j o1 j' o2 b hj hj' _ _ => ?_, fun b hb => Nat.lt_of_lt_of_le (hh.ilt b hb) h4⟩,
      ⟨h1, h2, h3, h4, fun b hb => hb.1, fun b hb => h5 b hb.1 fun hf => hb.2 id _ hid hf, fun b hb => hb, fun b _ hb => hb, fun j o b hj hb hp => ?_⟩, fun _ _ => ⟨rfl, rfl⟩⟩
    · obtain ⟨rfl, rfl⟩ := ofH_one.1 hj; exact h6
    · obtain ⟨rfl, rfl⟩ := ofH_one.1 hj
      have := hh.lt j _ b hid (hfp b hb)
      exact ⟨Nat.lt_of_lt_of_le this.1 h4, this.2⟩
    · obtain ⟨rfl, _⟩ := ofH_one.1 hj; obtain ⟨rfl, _⟩ := ofH_one.1 hj'; rfl
    · obtain ⟨rfl, rfl⟩ := ofH_one.1 hj
      exact hp.2 j _ hid (hfp b hb)
  rcases ho with ⟨hη, hl⟩ | ⟨cap, cur, hη, hb, hlc, hcm, hcs, hmm⟩
  · rw [hη]
    have hl' : l' = [] := List.eq_nil_of_length_eq_zero (by rw [hlen, hl]; rfl)
    refine (hnil hl none 0 w).mono ?_
    rintro e w' ⟨rfl, rfl⟩
    exact done w' rfl rfl rfl (Nat.le_refl _) (fun b _ _ => rfl) (.inl ⟨hη, hl'⟩)
  · rw [hη]
    obtain ⟨h1, h2⟩ := grow_holds (T := T) hr hb hmm
    have hfid : fp Γ id (.grow T 1 α d row l) (Γ.ρ id) := ⟨rfl, by rw [hη]; simp⟩
    have hlt := fp_lt hh (ofH_one.2 ⟨rfl, rfl⟩) hfid
    refine (hcon (Γ.ρ id) cap w h1 hlt).mono ?_
    rintro e w' ⟨rfl, n, os, rfl⟩
    have hold : ∀ b, b < w.heap.size → (Sort.grow (Sort.putRow enc (Sort.ahead w n) (Γ.ρ id) 0 l'.toArray) os).heap[b]? = (Sort.putRow enc (Sort.ahead w n) (Γ.ρ id) 0 l'.toArray).heap[b]? := fun b hb => by
      show (_ ++ os)[b]? = _
      rw [Array.getElem?_append_left (by rw [put_size]; exact hb)]
    refine done _ rfl rfl rfl (by show _ ≤ (_ ++ os).size; rw [Array.size_append, put_size]; omega) (fun b hb hnf => ?_) (.inr ⟨cap, Sort.putCells enc 0 l'.toArray cur, by rw [hη, hlen], ?_, by rw [hlen]; exact hlc, hcm, by rw [put_csize]; exact hcs, fun j x hx i hi => ?_⟩)
    · rw [hold b hb, put_other fun e => hnf (by rw [e]; exact hfid)]
    · rw [hold _ hlt]; exact put_heap hb
    · obtain rfl : i = 0 := by omega
      have hjl := (List.getElem?_eq_some_iff.1 hx).1
      refine ⟨enc x, ?_, hr.put (h2 x (hmem x (List.mem_of_getElem? hx)))⟩
      rw [Nat.mul_one, Nat.add_zero]
      exact put_get hx (by rw [hcs]; omega)

/-- The row shortened in place: a new header. -/
theorem Spec.shorten (hc : Callable P f) (hr : OneRow α row enc good) {l' zs : List α} (hlen : (l' ++ zs).length = l.length) (hmem : ∀ x ∈ l', x ∈ l)
    (hcon : ∀ b cap w, Sort.Holds enc w b 0 l.toArray → l.length ≤ cap → Calls P f #[.slice (some ⟨b, 0, none⟩) l.length cap] w fun e w' => e = .returned (.slice (some ⟨b, 0, none⟩) l'.length cap) ∧ ∃ n, w' = Sort.putRow enc (Sort.ahead w n) b 0 (l' ++ zs).toArray)
    (hnil : l = [] → ∀ p cap w, Calls P f #[.slice p 0 cap] w fun e w' => e = .returned (.slice p 0 cap) ∧ w' = w) (id dd : Nat) (hne : id ≠ dd) :
    Spec P f [.c (.own id)] (ofH [(id, .grow T 1 α d row l)]) (vo dd) (ofH [(dd, .grow T 1 α d row l')]) := by
  refine ⟨hc, fun Γ w cargs hh hm => ?_⟩
  obtain ⟨v, hv⟩ : ∃ v, cargs = #[v] := by
    have := hm.length
    rw [Array.length_toList] at this
    match cargs, this with
    | ⟨[v]⟩, _ => exact ⟨v, rfl⟩
  subst hv
  obtain ⟨⟨hv, _⟩, _⟩ := (show (v = Γ.η id ∧ v.oneCell' = true) ∧ True from hm)
  subst hv
  have ho := hh.objs id _ (ofH_one.2 ⟨rfl, rfl⟩)
  have hid := ofH_one.2 (⟨rfl, rfl⟩ : id = id ∧ AObj.grow T 1 α d row l = .grow T 1 α d row l)
  have hd0 : ofH [(id, AObj.grow T 1 α d row l)] dd = none := by simp only [ofH]; rw [beq_false (Ne.symm hne)]; rfl
  rcases ho with ⟨hη, hl⟩ | ⟨cap, cur, hη, hb, hlc, hcm, hcs, hmm⟩
  · rw [hη]
    have hl' : l' = [] := List.eq_nil_of_length_eq_zero (by rw [hl, List.length_append] at hlen; have : ([] : List α).length = 0 := rfl; omega)
    refine (hnil hl none 0 w).mono ?_
    rintro e w' ⟨rfl, rfl⟩
    have hp := new_post (g := 0) (v := .slice none 0 0) (o := .grow T 1 α d row l') hh hd0 rfl rfl rfl (Nat.le_refl _) (fun b hb => rfl) (.inl ⟨by rw [mk_η], hl'⟩) fun b hb => by
      obtain ⟨_, h2⟩ := hb
      simp only [mk_η] at h2
      exact absurd rfl h2
    exact ⟨_, _, rfl, ⟨(mk_η Γ dd _ _).symm, rfl⟩, hp.heap, hp.g, hp.agree⟩
  · rw [hη]
    obtain ⟨h1, h2⟩ := grow_holds (T := T) hr hb hmm
    have hfid : fp Γ id (.grow T 1 α d row l) (Γ.ρ id) := ⟨rfl, by rw [hη]; simp⟩
    have hlt := fp_lt hh hid hfid
    have hl'l : l'.length ≤ l.length := by rw [← hlen, List.length_append]; omega
    refine (hcon (Γ.ρ id) cap w h1 hlc).mono ?_
    rintro e w' ⟨rfl, n, rfl⟩
    have hp := new_post (g := Γ.ρ id) (v := .slice (some ⟨Γ.ρ id, 0, none⟩) l'.length cap) (o := .grow T 1 α d row l') (w' := Sort.putRow enc (Sort.ahead w n) (Γ.ρ id) 0 (l' ++ zs).toArray) hh hd0 rfl rfl rfl (by rw [put_size]; exact Nat.le_refl _)
      (fun b hb => put_other fun e => hb.2 id _ hid (by rw [e]; exact hfid)) (.inr ⟨cap, Sort.putCells enc 0 (l' ++ zs).toArray cur, by rw [mk_η, mk_ρ], by rw [mk_ρ]; exact put_heap hb, by omega, hcm, by rw [put_csize]; exact hcs, fun j x hx i hi => by
        obtain rfl : i = 0 := by omega
        have hjl := (List.getElem?_eq_some_iff.1 hx).1
        refine ⟨enc x, ?_, hr.put (h2 x (hmem x (List.mem_of_getElem? hx)))⟩
        rw [Nat.mul_one, Nat.add_zero]
        exact put_get (by rw [List.getElem?_append_left hjl]; exact hx) (by rw [hcs]; omega)⟩) fun b hb => by
        obtain ⟨h3, _⟩ := hb
        rw [mk_ρ] at h3
        subst h3
        exact ⟨by rw [put_size]; exact hlt, (hh.lt id _ _ hid hfid).2, fun hp => hp.2 id _ hid hfid⟩
    exact ⟨_, _, rfl, ⟨(mk_η Γ dd _ _).symm, rfl⟩, hp.heap, hp.g, hp.agree⟩
end
/-- A function of the library that leaves the world as it was. -/
theorem Pure.of_calls {P : Program} {f : FuncId} {args : List TV} {res : AV} (hc : Callable P f)
    (h : ∀ Γ w cargs, MTs Γ w args cargs.toList → Calls P f cargs w fun e w' => ∃ v, e = .returned v ∧ w' = w ∧ MV Γ H0 w res v) : Pure P f args res := by
  refine ⟨hc, fun Γ w cargs hh hm => (h Γ w cargs hm).mono ?_⟩
  rintro e w' ⟨v, rfl, rfl, hv⟩
  exact ⟨v, Γ, rfl, hv, hh, ⟨rfl, rfl, rfl, Nat.le_refl _, fun b hb => hb.1, fun b hb => rfl, fun b hb => hb, fun b _ hb => hb, fun j o b hj _ _ => by cases hj⟩, fun _ _ => ⟨rfl, rfl⟩⟩
theorem args2 {Γ : Ctx} {w : World} {a b : TV} {cargs : Array Value} (h : MTs Γ w [a, b] cargs.toList) : ∃ u v, cargs = #[u, v] ∧ MT Γ w a u ∧ MT Γ w b v := by
  have := h.length
  rw [Array.length_toList] at this
  match cargs, this, h with
  | ⟨[u, v]⟩, _, h => exact ⟨u, v, rfl, h.1, h.2.1⟩
end AL
