/- An abstract logic, 13: the steps with an effect, each with what it asks and what it leaves. No condition. -/
import Derived.Test.YtphkoklgdkimmaaAL12
namespace AL
open Go
set_option linter.unusedVariables false

/-- What a step is told: the result of a call; the object that it makes; the text that it yields. -/
inductive CE : Type 1
  | call (fz hin : List Nat) (res : AV) (new : List (Nat × AObj))
  | obj (o : AObj)
  | str (s : Bytes)
  | shr (o : Option AObj)

theorem post_refl {Γ w} (hh : HeapOk Γ H0 w) : Post Γ H0 w Γ [] w :=
  ⟨hh, ⟨rfl, rfl, rfl, Nat.le_refl _, fun b hb => hb.1, fun b hb => rfl, fun b hb => hb, fun b _ hb => hb, fun _ _ _ h => (by cases h)⟩, fun _ _ => ⟨rfl, rfl⟩⟩

/-- An owned object is written in place. -/
theorem upd_post {Γ w w'} {id : Nat} {o o' : AObj} (hh : HeapOk Γ (ofH [(id, o)]) w) (os : w'.os = w.os) (tp : w'.tape = w.tape) (ou : w'.output = w.output) (sz : w.heap.size ≤ w'.heap.size)
    (hk : ∀ b, (∀ c, fp Γ id o c → b ≠ c) → w'.heap[b]? = w.heap[b]?) (hf : ∀ b, fp Γ id o' b → fp Γ id o b) (hm : MO Γ w' id o') :
    Post Γ (ofH [(id, o)]) w Γ [(id, o')] w' := by
  have ho : ofH [(id, o)] id = some o := ofH_one.2 ⟨rfl, rfl⟩
  refine ⟨⟨fun j q hj => ?_, fun j q b hj hb => ?_, fun j q j' q' b hj hj' _ _ => ?_, fun b hb => Nat.lt_of_lt_of_le (hh.ilt b hb) sz⟩,
    ⟨os, tp, ou, sz, fun b hb => hb.1, fun b hb => hk b fun c hc e => hb.2 id o ho (e ▸ hc), fun b hb => hb, fun b _ hb => hb, fun j q b hj hb hp => ?_⟩, fun _ _ => ⟨rfl, rfl⟩⟩
  · obtain ⟨rfl, rfl⟩ := ofH_one.1 hj; exact hm
  · obtain ⟨rfl, rfl⟩ := ofH_one.1 hj
    have := hh.lt _ _ b ho (hf b hb)
    exact ⟨Nat.lt_of_lt_of_le this.1 sz, this.2⟩
  · obtain ⟨rfl, _⟩ := ofH_one.1 hj; obtain ⟨rfl, _⟩ := ofH_one.1 hj'; rfl
  · obtain ⟨rfl, rfl⟩ := ofH_one.1 hj; exact hp.2 _ _ ho (hf b hb)

theorem mk_ext {Γ : Ctx} {w w' : World} (hk : ∀ b, Γ.I b → w'.heap[b]? = w.heap[b]?) : Ext (fun _ => False) Γ w Γ w' := ⟨fun b hb => hb, hk, fun _ _ => ⟨rfl, rfl⟩⟩

/-! ### A store -/
def spl (L : List AC) (j : Nat) (c : List AC) : List AC := L.take j ++ (c ++ L.drop (j + c.length))

theorem run_store {P : Program} {w : World} {T e : TypeId} {i : TypeInfo} {g o : Nat} {cur : Array Value} {v : Value} (hi : P.info? T = some i) (hs : v.cells.size = i.size) (h1 : ∀ u ∈ v.cells.toList, u.oneCell' = true)
    (hg : w.heap[g]? = some (.cells cur e (0, 0))) (hl : o + i.size ≤ cur.size) :
    (Instr.storeAt T (.pointer (some ⟨g, o, none⟩)) v).run P w = Result.ok () (w.setRow g (cur.toList.take o ++ v.cells.toList ++ cur.toList.drop (o + v.cells.toList.length)).toArray) := by
  have := run_storeCells_at P g o e v.cells.toList 0 cur w hg (by simp; omega) h1
  simp only [Nat.add_zero] at this
  simp [Instr.storeAt, Instr.sureAddr, storeVar, run_sizeOf' hi, hs]
  simpa [hs] using this

theorem store_row {P : Program} {Γ w} {T : TypeId} {i : TypeInfo} {id off : Nat} {cells l : List AC} {v : Value} (hh : HeapOk Γ (ofH [(id, .row cells)]) w) (hi : P.info? T = some i)
    (hm : MCs Γ w l v.cells.toList) (hs : l.length = i.size) (hle : off + i.size ≤ cells.length) :
    ∃ w', (Instr.storeAt T (.pointer (some ⟨Γ.ρ id, off, none⟩)) v).run P w = Result.ok () w' ∧ Post Γ (ofH [(id, .row cells)]) w Γ [(id, .row (spl cells off l))] w' := by
  have ho : ofH [(id, AObj.row cells)] id = some (.row cells) := ofH_one.2 ⟨rfl, rfl⟩
  obtain ⟨cur, T', hb, hc⟩ := hh.objs id _ ho
  have hcl := hc.length
  have hvl := hm.length
  rw [Array.length_toList] at hcl
  have hfp : fp Γ id (.row cells) (Γ.ρ id) := ⟨rfl, trivial⟩
  have hnI := (hh.lt id _ _ ho hfp).2
  have hk : ∀ cs b, b ≠ Γ.ρ id → (w.setRow (Γ.ρ id) cs).heap[b]? = w.heap[b]? := fun cs b hb => setRow_other w _ b _ hb
  refine ⟨_, run_store (T := T) hi (by rw [← Array.length_toList]; omega) hm.one hb (by omega), ?_⟩
  refine upd_post hh rfl rfl rfl (by rw [setRow_size]; exact Nat.le_refl _) (fun b hb => hk _ b (hb _ hfp)) (fun b hb => hb) ⟨_, T', setRow_heap w _ _ _ _ _ hb, ?_⟩
  have hx : Ext (fun _ => False) Γ w Γ (w.setRow (Γ.ρ id) (cur.toList.take off ++ v.cells.toList ++ cur.toList.drop (off + v.cells.toList.length)).toArray) := mk_ext fun b hb => hk _ b fun e => hnI (e ▸ hb)
  have := MCs.ext hx (fun d hd => hd.elim) ((hc.take off).append (hm.append (hc.drop (off + l.length))))
  simpa [spl, hvl] using this

/-- A store into element i of an owned slice or array, at its cell j. -/
def StoreC (i j : Nat) (c : List AC) : AObj → AObj → Prop
  | .grow T k α d row l, o => ∃ x : α, o = .grow T k α d row (l.set i x) ∧ i < l.length ∧ spl (ofS k (row (l.getD i d))) j c = ofS k (row x)
  | .arr k n α d row l, o => ∃ x : α, o = .arr k n α d row (l.set i x) ∧ i < l.length ∧ spl (ofS k (row (l.getD i d))) j c = ofS k (row x)
  | _, _ => False

theorem elem_cells {Γ w k} {α : Type} {d : α} {row : α → Nat → SC} {l : List α} {i j : Nat} {x : α} {c : List AC} {cur us : List Value} (hlt : i < l.length) (hc : MCs Γ w c us) (hjk : j + c.length ≤ k)
    (hcur : l.length * k ≤ cur.length) (hm : ∀ j x, l[j]? = some x → ∀ i, i < k → ∃ u, cur[j * k + i]? = some u ∧ MS Γ.I w (row x i) u) (hs : spl (ofS k (row (l.getD i d))) j c = ofS k (row x)) :
    ∀ j' x', (l.set i x)[j']? = some x' → ∀ i', i' < k → ∃ u, (cur.take (i * k + j) ++ us ++ cur.drop (i * k + j + us.length))[j' * k + i']? = some u ∧ MS Γ.I w (row x' i') u := by
  intro j' x' hx' i' hi'
  have hul := hc.length
  have hik : (i + 1) * k ≤ l.length * k := Nat.mul_le_mul_right _ hlt
  rw [Nat.add_mul] at hik
  have htl : (cur.take (i * k + j)).length = i * k + j := by simp; omega
  by_cases hj : j' = i
  · subst hj
    rw [List.getElem?_set_self hlt] at hx'
    cases hx'
    have e : (ofS k (row x))[i']? = some (.s (row x i')) := by simp [ofS, hi']
    rw [← hs] at e
    obtain ⟨u0, h0, m0⟩ := hm j' (l.getD j' d) (by simp [List.getD, List.getElem?_eq_getElem hlt]) i' hi'
    unfold spl at e
    by_cases h1 : i' < j
    · rw [List.getElem?_append_left (by simp [length_ofS]; omega), List.getElem?_take_of_lt h1] at e
      obtain ⟨_, e2⟩ := get_ofS e
      injection e2 with e2
      refine ⟨u0, ?_, by rw [e2]; exact m0⟩
      rw [List.append_assoc, List.getElem?_append_left (by omega), List.getElem?_take_of_lt (by omega)]
      exact h0
    · by_cases h2 : i' < j + c.length
      · rw [List.getElem?_append_right (by simp [length_ofS]; omega), List.getElem?_append_left (by simp [length_ofS]; omega)] at e
        simp only [List.length_take, length_ofS] at e
        rw [show min j k = j by omega] at e
        obtain ⟨u, hu, hmu⟩ := hc.get e
        refine ⟨u, ?_, hmu⟩
        rw [List.append_assoc, List.getElem?_append_right (by omega), List.getElem?_append_left (by omega), htl]
        rw [show j' * k + i' - (j' * k + j) = i' - j by omega]
        exact hu
      · rw [List.getElem?_append_right (by simp [length_ofS]; omega), List.getElem?_append_right (by simp [length_ofS]; omega)] at e
        simp only [List.length_take, length_ofS, List.getElem?_drop] at e
        rw [show min j k = j by omega, show j + c.length + (i' - j - c.length) = i' by omega] at e
        obtain ⟨_, e2⟩ := get_ofS e
        injection e2 with e2
        refine ⟨u0, ?_, by rw [e2]; exact m0⟩
        rw [List.append_assoc, List.getElem?_append_right (by omega), List.getElem?_append_right (by omega), List.getElem?_drop, htl]
        rw [show j' * k + j + us.length + (j' * k + i' - (j' * k + j) - us.length) = j' * k + i' by omega]
        exact h0
  · rw [List.getElem?_set_ne (Ne.symm hj)] at hx'
    obtain ⟨u, h0, m0⟩ := hm j' x' hx' i' hi'
    refine ⟨u, ?_, m0⟩
    by_cases hlt' : j' < i
    · have : (j' + 1) * k ≤ i * k := Nat.mul_le_mul_right _ hlt'
      rw [Nat.add_mul] at this
      rw [List.append_assoc, List.getElem?_append_left (by omega), List.getElem?_take_of_lt (by omega)]
      exact h0
    · have : (i + 1) * k ≤ j' * k := Nat.mul_le_mul_right _ (by omega)
      rw [Nat.add_mul] at this
      rw [List.append_assoc, List.getElem?_append_right (by omega), List.getElem?_append_right (by omega), List.getElem?_drop, htl]
      rw [show i * k + j + us.length + (j' * k + i' - (i * k + j) - us.length) = j' * k + i' by omega]
      exact h0

theorem store_elem {P : Program} {Γ w} {T : TypeId} {inf : TypeInfo} {id i j : Nat} {o o' : AObj} {c : List AC} {v : Value} (hh : HeapOk Γ (ofH [(id, o)]) w) (hi : P.info? T = some inf)
    (hm : MCs Γ w c v.cells.toList) (hs : c.length = inf.size) (hle : j + inf.size ≤ o.width) (hc : StoreC i j c o o') :
    ∃ w', (Instr.storeAt T (.pointer (some ⟨Γ.ρ id, i * o.width + j, none⟩)) v).run P w = Result.ok () w' ∧ Post Γ (ofH [(id, o)]) w Γ [(id, o')] w' := by
  have ho : ofH [(id, o)] id = some o := ofH_one.2 ⟨rfl, rfl⟩
  have hvl := hm.length
  have hobj := hh.objs id _ ho
  have hk : ∀ cs b, b ≠ Γ.ρ id → (w.setRow (Γ.ρ id) cs).heap[b]? = w.heap[b]? := fun cs b hb => setRow_other w _ b _ hb
  cases o with
  | grow T' k α d row l =>
    obtain ⟨x, rfl, hlt, hsp⟩ := hc
    rcases hobj with ⟨_, rfl⟩ | ⟨cap, cur, hη, hb, hlc, hcm, hcs, hmm⟩
    · simp at hlt
    have hfp : fp Γ id (.grow T' k α d row l) (Γ.ρ id) := ⟨rfl, by rw [hη]; simp⟩
    have hnI := (hh.lt id _ _ ho hfp).2
    simp only [AObj.width] at hle ⊢
    have hik : (i + 1) * k ≤ l.length * k := Nat.mul_le_mul_right _ hlt
    have hlk : l.length * k ≤ cur.size := by rw [hcs]; exact Nat.mul_le_mul_right _ hlc
    rw [Nat.add_mul] at hik
    refine ⟨_, run_store (T := T) hi (by rw [← Array.length_toList]; omega) hm.one hb (by omega), ?_⟩
    refine upd_post hh rfl rfl rfl (by rw [setRow_size]; exact Nat.le_refl _) (fun b hb => hk _ b (hb _ hfp)) (fun b hb => hb)
      (.inr ⟨cap, _, by rw [List.length_set]; exact hη, setRow_heap w _ _ _ _ _ hb, by rw [List.length_set]; exact hlc, hcm, ?_, ?_⟩)
    · simp only [List.size_toArray, List.length_append, List.length_take, List.length_drop, Array.length_toList] at hvl ⊢
      omega
    · intro j' x' hx' i' hi'
      obtain ⟨u, h1, h2⟩ := elem_cells (cur := cur.toList) hlt hm (by omega) (by simpa using hlk) (by simpa using hmm) hsp j' x' hx' i' hi'
      exact ⟨u, by simpa using h1, MS.mono (fun b hb => hb) (fun b hb => hk _ b fun e => hnI (e ▸ hb)) h2⟩
  | arr k n α d row l =>
    obtain ⟨x, rfl, hlt, hsp⟩ := hc
    obtain ⟨cur, T', hb, hln, hcs, hmm⟩ := hobj
    have hfp : fp Γ id (.arr k n α d row l) (Γ.ρ id) := ⟨rfl, trivial⟩
    have hnI := (hh.lt id _ _ ho hfp).2
    simp only [AObj.width] at hle ⊢
    have hik : (i + 1) * k ≤ l.length * k := Nat.mul_le_mul_right _ hlt
    have hlk : l.length * k = cur.size := by rw [hcs, hln]
    rw [Nat.add_mul] at hik
    refine ⟨_, run_store (T := T) hi (by rw [← Array.length_toList]; omega) hm.one hb (by omega), ?_⟩
    refine upd_post hh rfl rfl rfl (by rw [setRow_size]; exact Nat.le_refl _) (fun b hb => hk _ b (hb _ hfp)) (fun b hb => hb)
      ⟨_, T', setRow_heap w _ _ _ _ _ hb, by rw [List.length_set]; exact hln, ?_, ?_⟩
    · simp only [List.size_toArray, List.length_append, List.length_take, List.length_drop, Array.length_toList] at hvl ⊢
      omega
    · intro j' x' hx' i' hi'
      obtain ⟨u, h1, h2⟩ := elem_cells (cur := cur.toList) hlt hm (by omega) (by simp; omega) (by simpa using hmm) hsp j' x' hx' i' hi'
      exact ⟨u, by simpa using h1, MS.mono (fun b hb => hb) (fun b hb => hk _ b fun e => hnI (e ▸ hb)) h2⟩
  | row cells => exact hc.elim
  | iter s p => exact hc.elim
end AL
