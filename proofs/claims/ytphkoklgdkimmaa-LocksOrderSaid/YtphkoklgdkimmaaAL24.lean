/- An abstract logic, 24: steps that may be done in either order. No condition. -/
import Derived.Test.YtphkoklgdkimmaaAL23
namespace AL
open Go
set_option linter.unusedVariables false
set_option linter.unusedSimpArgs false

def Dl.ids (d : Dl) : List Nat := keysNew (ofH d.hin) d.new
/-- d wipes what is known by v. -/
def Dl.wipes (d : Dl) (v : AV) : Bool := d.ids.any (fun i => v.has i) || oelIn (ofH d.hin) v
def Dl.kills (d : Dl) (i : Nat) : Bool := d.fz.any (Nat.beq i) || (ofH d.hin i).isSome
def Dl.hits (d : Dl) (o : AObj) : Bool := d.ids.any fun i => o.has i

theorem delAll_val (obj : Nat → Option AObj) (j : Nat) : ∀ (fz : List Nat) (obj : Nat → Option AObj), delAll fz obj j = bif fz.any (Nat.beq j) then none else obj j
  | [], _ => rfl
  | i :: r, obj => by
    simp only [delAll, List.any_cons]
    rw [delAll_val obj j r]
    unfold delObj
    cases h1 : Nat.beq j i <;> cases h2 : r.any (Nat.beq j) <;> rfl

theorem app_n (dst : Option Tmp) (d : Dl) (S : AS) : (app dst d S).n = S.n := by
  unfold app; rw [effSt_eq]; unfold effSt AS.set; cases dst <;> rfl

theorem app_reg (dst : Option Tmp) (d : Dl) (S : AS) (t : Nat) : (app dst d S).reg t = if dst = some t then d.res else bif d.wipes (S.reg t) then .any else S.reg t := by
  unfold app; rw [effSt_eq]; unfold effSt AS.set
  cases dst with
  | none => rfl
  | some e =>
    simp only [Option.some.injEq]
    by_cases h : t = e
    · subst h; rw [Nat.beq_refl, if_pos rfl]; rfl
    · rw [beq_false h, if_neg (Ne.symm h)]; rfl

theorem app_obj (dst : Option Tmp) (d : Dl) (S : AS) (j : Nat) : (app dst d S).obj j = match ofH d.new j with
    | some o => some o
    | none => bif d.kills j then none else match S.obj j with
      | some o => bif d.hits o then none else some o
      | none => none := by
  unfold app; rw [effSt_eq]; unfold effSt AS.set
  refine Eq.trans (b := afterObj (delAll d.fz S.obj) (ofH d.hin) (ofH d.new) (keysNew (ofH d.hin) d.new) j) (by cases dst <;> rfl) ?_
  unfold afterObj
  rw [delAll_val S.obj]
  unfold Dl.kills Dl.hits Dl.ids
  cases ofH d.new j with
  | some o => rfl
  | none =>
    simp only []
    cases d.fz.any (Nat.beq j) <;> cases (ofH d.hin j).isSome <;> simp <;> (cases S.obj j <;> rfl)

def newOk (a b : Dl) : Bool := a.new.all fun p => !(b.kills p.1) && ((ofH b.new p.1).isNone && !(b.hits p.2))
def dstOk : Option Tmp → Option Tmp → Bool
  | some a, some b => !(Nat.beq a b)
  | _, _ => true

/-- Both orders lead to the same. -/
def commB (x : Option Tmp) (a : Dl) (y : Option Tmp) (b : Dl) : Bool :=
  dstOk x y && (!(b.wipes a.res) && (!(a.wipes b.res) && (newOk a b && newOk b a)))

theorem ofH_mem : ∀ {l : List (Nat × AObj)} {i o}, ofH l i = some o → (i, o) ∈ l
  | [], i, o, h => by cases h
  | (k, p) :: l, i, o, h => by
    simp only [ofH] at h
    by_cases hk : i = k
    · subst hk; rw [Nat.beq_refl] at h; cases h; exact List.mem_cons_self ..
    · rw [beq_false hk] at h; exact List.mem_cons_of_mem _ (ofH_mem h)

theorem newOk_of {a b : Dl} (h : newOk a b = true) {j o} (hj : ofH a.new j = some o) : b.kills j = false ∧ ofH b.new j = none ∧ b.hits o = false := by
  have := List.all_eq_true.1 h _ (ofH_mem hj)
  simp only [Bool.and_eq_true, Bool.not_eq_true', Option.isNone_iff_eq_none] at this
  exact ⟨this.1, this.2.1, this.2.2⟩

theorem wipes_any (d : Dl) : d.wipes .any = false := by
  unfold Dl.wipes
  have : d.ids.any (fun i => AV.any.has i) = false := by
    induction d.ids with
    | nil => rfl
    | cons i l ih => rw [List.any_cons, ih]; rfl
  rw [this]; rfl

theorem app_comm {x y : Option Tmp} {a b : Dl} (h : commB x a y b = true) (S : AS) : app x a (app y b S) = app y b (app x a S) := by
  unfold commB at h
  simp only [Bool.and_eq_true, Bool.not_eq_true'] at h
  obtain ⟨h1, h2, h3, h4, h5⟩ := h
  have hn : (app x a (app y b S)).n = (app y b (app x a S)).n := by simp only [app_n]
  have hr : (app x a (app y b S)).reg = (app y b (app x a S)).reg := by
    funext t
    simp only [app_reg]
    by_cases hx : x = some t
    · have hy : y ≠ some t := fun hy => by subst hx hy; simp [dstOk] at h1
      simp only [if_pos hx, if_neg hy, h2, cond_false]
    · by_cases hy : y = some t
      · simp only [if_neg hx, if_pos hy, h3, cond_false]
      · simp only [if_neg hx, if_neg hy]
        cases e1 : a.wipes (S.reg t) <;> cases e2 : b.wipes (S.reg t) <;> simp only [cond_true, cond_false, e1, e2, wipes_any]
  have ho : (app x a (app y b S)).obj = (app y b (app x a S)).obj := by
    funext j
    simp only [app_obj]
    cases ha : ofH a.new j with
    | some o =>
      obtain ⟨q1, q2, q3⟩ := newOk_of h4 ha
      simp only [q1, q2, q3, cond_false]
    | none =>
      cases hb : ofH b.new j with
      | some o =>
        obtain ⟨q1, q2, q3⟩ := newOk_of h5 hb
        simp only [q1, q3, cond_false]
      | none =>
        simp only []
        cases a.kills j <;> cases b.kills j <;> simp only [cond_true, cond_false]
        cases S.obj j with
        | none => rfl
        | some o => cases e1 : a.hits o <;> cases e2 : b.hits o <;> simp only [cond_true, cond_false, e1, e2]
  cases hA : app x a (app y b S); cases hB : app y b (app x a S)
  rw [hA, hB] at hn hr ho
  cases hn; cases hr; cases ho; rfl

/-- A step of a region: what it changes, what it looks at. -/
structure It where
  dst : Option Tmp
  d : Dl
  rd : List (Nat × AV)
  ro : List (Nat × AObj)

structure Agr (it : It) (S : AS) : Prop where
  reg : ∀ p ∈ it.rd, S.reg p.1 = p.2
  obj : ∀ p ∈ it.ro, S.obj p.1 = some p.2

def isAny : AV → Bool
  | .any => true
  | _ => false

def dstNot (x : Option Tmp) (t : Nat) : Bool := match x with
  | some d => !(Nat.beq d t)
  | none => true

theorem dstNot_ok {x : Option Tmp} {t : Nat} (h : dstNot x t = true) : x ≠ some t := fun e => by subst e; simp [dstNot] at h

/-- What 'it' looks at stands behind the step (x, a) as it stood ahead. -/
def fwdB (x : Option Tmp) (a : Dl) (it : It) : Bool :=
  it.rd.all (fun p => dstNot x p.1 && !(a.wipes p.2)) && it.ro.all fun p => !(a.kills p.1) && ((ofH a.new p.1).isNone && !(a.hits p.2))

/-- What 'it' looks at stood ahead of the step (x, a) as it stands behind. -/
def backB (x : Option Tmp) (a : Dl) (it : It) : Bool :=
  it.rd.all (fun p => dstNot x p.1 && !(isAny p.2)) && it.ro.all fun p => (ofH a.new p.1).isNone

theorem agr_fwd {x a it S} (h : fwdB x a it = true) (hA : Agr it S) : Agr it (app x a S) := by
  unfold fwdB at h
  simp only [Bool.and_eq_true, List.all_eq_true, Bool.not_eq_true', Option.isNone_iff_eq_none] at h
  refine ⟨fun p hp => ?_, fun p hp => ?_⟩
  · obtain ⟨h1, h2⟩ := h.1 p hp
    rw [app_reg, if_neg (dstNot_ok h1), hA.reg p hp, h2]; rfl
  · obtain ⟨h1, h2, h3⟩ := h.2 p hp
    rw [app_obj, h1, h2, hA.obj p hp]; simp only [h3, cond_false]

theorem agr_back {x a it S} (h : backB x a it = true) (hA : Agr it (app x a S)) : Agr it S := by
  unfold backB at h
  simp only [Bool.and_eq_true, List.all_eq_true, Bool.not_eq_true', Option.isNone_iff_eq_none] at h
  refine ⟨fun p hp => ?_, fun p hp => ?_⟩
  · obtain ⟨h1, h2⟩ := h.1 p hp
    have := hA.reg p hp
    rw [app_reg, if_neg (dstNot_ok h1)] at this
    cases e : a.wipes (S.reg p.1)
    · rw [e] at this; exact this
    · rw [e] at this
      rw [← this] at h2
      cases h2
  · have h2 := h.2 p hp
    have := hA.obj p hp
    rw [app_obj, h2] at this
    simp only [] at this
    cases e : a.kills p.1
    · rw [e] at this
      simp only [cond_false] at this
      cases e2 : S.obj p.1 with
      | none => rw [e2] at this; cases this
      | some o =>
        rw [e2] at this
        simp only [] at this
        cases e3 : a.hits o
        · rw [e3] at this; exact this
        · rw [e3] at this; cases this
    · rw [e] at this; cases this

/-! ### Steps, of which some are done -/
def stp (its : List It) (i : Nat) (S : AS) : AS := match its[i]? with
  | some it => app it.dst it.d S
  | none => S

def foldM (its : List It) (m : Nat → Bool) : Nat → AS → AS
  | 0, s => s
  | k + 1, s => bif m k then stp its k (foldM its m k s) else foldM its m k s

theorem foldM_n (its : List It) (m : Nat → Bool) (s : AS) : ∀ k, (foldM its m k s).n = s.n
  | 0 => rfl
  | k + 1 => by
    have hs : ∀ S, (stp its k S).n = S.n := fun S => by unfold stp; cases its[k]? <;> simp [app_n]
    simp only [foldM]
    cases m k <;> simp [hs, foldM_n its m s k]

theorem foldM_congr (its : List It) {m m' : Nat → Bool} (s : AS) : ∀ k, (∀ j, j < k → m j = m' j) → foldM its m k s = foldM its m' k s
  | 0, _ => rfl
  | k + 1, h => by
    simp only [foldM]
    rw [h k (by omega), foldM_congr its s k fun j hj => h j (by omega)]

def setM (m : Nat → Bool) (i : Nat) : Nat → Bool := fun j => Nat.beq j i || m j

/-- Steps i and j: their order plays no part. -/
def Free2 (its : List It) (i j : Nat) : Prop := ∀ a b, its[i]? = some a → its[j]? = some b → commB a.dst a.d b.dst b.d = true ∧ backB a.dst a.d b = true ∧ fwdB b.dst b.d a = true

theorem stp_comm {its : List It} {i j : Nat} (h : Free2 its i j) (S : AS) : stp its i (stp its j S) = stp its j (stp its i S) := by
  unfold stp
  cases ha : its[i]? with
  | none => rfl
  | some a =>
    cases hb : its[j]? with
    | none => rfl
    | some b => exact app_comm (h a b ha hb).1 S

theorem foldM_ins (its : List It) {m : Nat → Bool} {i : Nat} (hi : m i = false) (s : AS) : ∀ k, i < k → (∀ j, i < j → j < k → m j = true → Free2 its i j) → foldM its (setM m i) k s = stp its i (foldM its m k s)
  | k + 1, hk, hf => by
    simp only [foldM]
    by_cases h : k = i
    · subst h
      have e : setM m k k = true := by simp [setM]
      rw [e, hi]
      simp only [cond_true, cond_false]
      rw [foldM_congr its (m' := m) s k fun j hj => by simp [setM, beq_false (Nat.ne_of_lt hj)]]
    · have e : setM m i k = m k := by simp [setM, beq_false h]
      rw [e, foldM_ins its hi s k (by omega) fun j h1 h2 h3 => hf j h1 (by omega) h3]
      cases hm : m k
      · rfl
      · exact (stp_comm (hf k (by omega) (by omega) hm) _).symm

theorem agr_down (its : List It) {m : Nat → Bool} {i : Nat} {a : It} (ha : its[i]? = some a) (s : AS) (hf : ∀ j, j < i → m j = false → Free2 its j i) (hff : ∀ j k, j < k → k < i → m j = false → m k = true → Free2 its j k)
    (h : Agr a (foldM its (fun _ => true) i s)) : ∀ k, k ≤ i → Agr a (foldM its (fun j => Nat.blt j (i - k) || m j) i s) := by
  intro k
  induction k with
  | zero =>
    intro _
    rw [foldM_congr its (m' := fun _ => true) s i fun j hj => by
      have : Nat.blt j (i - 0) = true := Nat.ble_eq_true_of_le hj
      rw [this]; rfl]
    exact h
  | succ k ih =>
    intro hk
    have ih := ih (by omega)
    let q := i - (k + 1)
    have hq : q < i := by omega
    have e1 : ∀ j, (Nat.blt j (i - k) || m j) = (Nat.beq j q || (Nat.blt j q || m j)) := fun j => by
      have : Nat.blt j (i - k) = (Nat.beq j q || Nat.blt j q) := by
        rw [Bool.eq_iff_iff]
        simp only [Nat.blt, Bool.or_eq_true, Nat.ble_eq, Nat.beq_eq]
        omega
      rw [this, Bool.or_assoc]
    by_cases hm : m q = true
    · refine (foldM_congr its s i fun j hj => ?_) ▸ ih
      rw [e1 j]
      by_cases hjq : j = q
      · rw [hjq, hm]; simp
      · rw [beq_false hjq]; rfl
    · have hm : m q = false := by simpa using hm
      have hqq : (fun j => Nat.blt j q || m j) q = false := by
        have : Nat.blt q q = false := by
          cases hb : Nat.blt q q with
          | false => rfl
          | true => exact absurd (Nat.le_of_ble_eq_true hb) (by omega)
        simp only [this, hm, Bool.or_false]
      have hins := foldM_ins its (m := fun j => Nat.blt j q || m j) (i := q) hqq s i hq (fun j h1 h2 h3 => hff q j h1 h2 hm (by
        have : Nat.blt j q = false := by
          cases hb : Nat.blt j q with
          | false => rfl
          | true => have := Nat.le_of_ble_eq_true hb; omega
        simpa [this] using h3))
      have e2 : foldM its (fun j => Nat.blt j (i - k) || m j) i s = foldM its (setM (fun j => Nat.blt j q || m j) q) i s := foldM_congr its s i fun j _ => e1 j
      rw [e2, hins] at ih
      unfold stp at ih
      split at ih
      · rename_i b hb
        exact agr_back (hf q hq hm b a hb ha).2.1 ih
      · exact ih

theorem agr_up (its : List It) {m : Nat → Bool} {i : Nat} {a : It} (ha : its[i]? = some a) (hi : m i = false) (s : AS) : ∀ k, i ≤ k → (∀ j, i < j → j < k → m j = true → Free2 its i j) → Agr a (foldM its m i s) → Agr a (foldM its m k s)
  | 0, hk, _, h => by obtain rfl : i = 0 := by omega
                      exact h
  | k + 1, hk, hf, h => by
    by_cases e : i = k + 1
    · subst e; exact h
    · have h' := agr_up its ha hi s k (by omega) (fun j h1 h2 h3 => hf j h1 (by omega) h3) h
      simp only [foldM]
      cases hm : m k
      · exact h'
      · have hne : i ≠ k := fun e => by subst e; rw [hi] at hm; cases hm
        simp only [cond_true]
        unfold stp
        split
        · rename_i b hb
          exact agr_fwd (hf k (by omega) (by omega) hm a b ha hb).2.2 h'
        · exact h'

/-- Whatever was done of the steps, downwards closed: step i finds what it looks at, and its place. -/
theorem at_any (its : List It) {m : Nat → Bool} {i : Nat} {a : It} (ha : its[i]? = some a) (hi : m i = false) (s : AS) {n : Nat} (hn : i < n) (h : Agr a (foldM its (fun _ => true) i s))
    (hf : ∀ j k, j < k → k < n → m j = false → (m k = true ∨ k = i) → Free2 its j k) :
    Agr a (foldM its m n s) ∧ foldM its (setM m i) n s = app a.dst a.d (foldM its m n s) := by
  have h1 := agr_down its ha s (fun j hj hm => hf j i hj hn hm (.inr rfl)) (fun j k h1 h2 h3 h4 => hf j k h1 (by omega) h3 (.inl h4)) h i (Nat.le_refl _)
  rw [foldM_congr its (m' := m) s i fun j _ => by simp [Nat.blt]] at h1
  refine ⟨agr_up its ha hi s n (by omega) (fun j q1 q2 q3 => hf i j q1 q2 hi (.inl q3)) h1, ?_⟩
  rw [foldM_ins its hi s n hn fun j q1 q2 q3 => hf i j q1 q2 hi (.inl q3)]
  unfold stp
  rw [ha]
end AL
