/- An abstract logic, 12: append, stores, slices made. No condition. -/
import Derived.Test.YtphkoklgdkimmaaAL11
namespace AL
open Go
set_option linter.unusedVariables false

section
variable {P : Program} {w : World} {t u ty e : TypeId} {i : TypeInfo} {z : Value} {du : TypeDesc} {x : Value} {n : Nat} {news : List Value}
  (ht : P.underlying t = some (.slice e)) (hu : P.underlying u = some du) (hdu : ∀ k, du ≠ .int k) (hi : P.info? e = some i) (hz : i.zero = some z)
  (hn : ∀ w, (Builtin.lenOf x).run P w = Result.ok n w) (hx : ∀ w', w'.heap = w.heap → (Builtin.firstCells i.size n x).run P w' = Result.ok news.toArray w')
include ht hu hdu hi hn hx

theorem app_room (b : Option Addr) (sLen sCap : Nat) (hr : sLen + n ≤ sCap) :
    (b = none → (Builtin.append_ #[t, u] ty #[.slice b sLen sCap, x]).run P w = Result.ok (.slice none (sLen + n) sCap) w) ∧
    ∀ a w', b = some a → (storeCells (a.add (sLen * i.size)) news).run P w = Result.ok () w' → (Builtin.append_ #[t, u] ty #[.slice b sLen sCap, x]).run P w = Result.ok (.slice (some a) (sLen + n) sCap) w' := by
  have h1 := hx w rfl
  refine ⟨fun hb => ?_, fun a w' hb hst => ?_⟩
  · subst hb
    simp [Builtin.append_, run_underlying ht, run_underlying hu, run_sizeOf' hi, hn, hr, h1]
  · subst hb
    simp [Builtin.append_, run_underlying ht, run_underlying hu, run_sizeOf' hi, hn, hr, h1, hst]

include hz in
theorem app_grow (b : Option Addr) (sLen sCap : Nat) (olds : List Value) (ho : ∀ w', w'.heap = w.heap → (Builtin.firstCells i.size sLen (.slice b sLen sCap)).run P w' = Result.ok olds.toArray w')
    (hg : sCap < sLen + n) (h63 : sLen + n ≤ maxLen) (hfit : (sLen + n) * i.bytes ≤ 140737488355328) :
    (Builtin.append_ #[t, u] ty #[.slice b sLen sCap, x]).run P w = Result.ok (.slice (some ⟨w.heap.size, 0, none⟩) (sLen + n) (grownCap w (sLen + n) sCap e))
        (w.drew.alloc (.cells (olds.toArray ++ news.toArray ++ Builtin.zeroCells z.cells (grownCap w (sLen + n) sCap e - (sLen + n))) e)) := by
  have hn' : ¬ (sLen + n ≤ sCap) := by omega
  simp only [maxLen] at h63
  have h63' : ¬ (9223372036854775807 < ((sLen : Int) + (n : Int))) := by omega
  have hfit' := growslice_fits hg hfit
  have h48' : ¬ (281474976710656 < Builtin.nextslicecap (sLen + n) sCap * i.bytes) := by omega
  have h1 := hx w.drew rfl
  have h2 := ho w.drew rfl
  simp [Builtin.append_, run_underlying ht, run_underlying hu, run_sizeOf' hi, typeInfo, zeroValue, hi, hz, hn, hn', h63', h48', Question.forced, h1, h2, newRow, grownCap]
  congr 2
  apply Array.ext'
  simp
end

theorem setRow_size (w : World) (g : Nat) (cs : Array Value) : (w.setRow g cs).heap.size = w.heap.size := by simp [World.setRow]

/-- Append onto an owned slice (or onto nil: 'old = none'). -/
theorem append_post {P : Program} {Γ : Ctx} {w : World} {t u ty e : TypeId} {i : TypeInfo} {z : Value} {du : TypeDesc} {x s : Value} {news : List Value} {d k : Nat} {α : Type} {dd : α} {row : α → Nat → SC} {l xs : List α}
    {hin : Nat → Option AObj} (hh : HeapOk Γ hin w) (hd : hin d = none)
    (hs : (s = .slice none 0 0 ∧ l = []) ∨ ∃ id, hin id = some (.grow e k α dd row l) ∧ s = Γ.η id)
    (ht : P.underlying t = some (.slice e)) (hu : P.underlying u = some du) (hdu : ∀ k, du ≠ .int k) (hi : P.info? e = some i) (hz : i.zero = some z) (hzs : z.cells.size = i.size) (hk : i.size = k) (hk0 : 0 < k)
    (hn : ∀ w, (Builtin.lenOf x).run P w = Result.ok xs.length w) (hx : ∀ w', w'.heap = w.heap → (Builtin.firstCells i.size xs.length x).run P w' = Result.ok news.toArray w')
    (hm : MCs Γ w (flat k row xs) news) (hfit : (l.length + xs.length) * i.bytes ≤ 140737488355328) (h63 : l.length + xs.length ≤ maxLen) :
    ∃ v w' g, (Builtin.append_ #[t, u] ty #[s, x]).run P w = Result.ok v w' ∧ Post Γ hin w (mkΓ Γ d g v) [(d, .grow e k α dd row (l ++ xs))] w' ∧ v.oneCell' = true := by
  have hnl := hm.length
  rw [length_flat] at hnl
  -- what grows: a new block
  have grow : ∀ (b : Option Addr) (sCap : Nat) (olds : List Value), s = .slice b l.length sCap → olds.length = l.length * k → (∀ j y, l[j]? = some y → ∀ i, i < k → ∃ u, olds[j * k + i]? = some u ∧ MS Γ.I w (row y i) u) →
      (∀ w', w'.heap = w.heap → (Builtin.firstCells i.size l.length (.slice b l.length sCap)).run P w' = Result.ok olds.toArray w') → sCap < l.length + xs.length →
      ∃ v w' g, (Builtin.append_ #[t, u] ty #[s, x]).run P w = Result.ok v w' ∧ Post Γ hin w (mkΓ Γ d g v) [(d, .grow e k α dd row (l ++ xs))] w' ∧ v.oneCell' = true := by
    intro b sCap olds hsv hol hom hof hlt
    have hr := app_grow (ty := ty) ht hu hdu hi hz hn hx b l.length sCap olds hof hlt h63 hfit
    rw [hsv]
    refine ⟨_, _, w.heap.size, hr, ?_, rfl⟩
    have hge := grownCap_ge w (l.length + xs.length) sCap e
    have hcm := grownCap_le_maxLen w (l.length + xs.length) sCap e h63
    have hlen : (l ++ xs).length = l.length + xs.length := List.length_append
    have hpre : ∀ b, prOf Γ hin w b → (w.drew.alloc (.cells (olds.toArray ++ news.toArray ++ Builtin.zeroCells z.cells (grownCap w (l.length + xs.length) sCap e - (l.length + xs.length))) e)).heap[b]? = w.heap[b]? := fun b hb => alloc_old w.drew _ hb.1
    refine new_post hh hd rfl rfl rfl (by rw [alloc_size]; show w.heap.size ≤ w.heap.size + 1; omega) hpre (.inr ⟨grownCap w (l.length + xs.length) sCap e, olds.toArray ++ news.toArray ++ Builtin.zeroCells z.cells (grownCap w (l.length + xs.length) sCap e - (l.length + xs.length)),
      by rw [mk_η, mk_ρ, hlen], by rw [mk_ρ]; exact alloc_new w.drew _, by rw [hlen]; exact hge, hcm, ?_, fun j y hy i' hi' => ?_⟩) fun b hb => ?_
    · simp only [Array.size_append, List.size_toArray, size_zeroCells, hzs, hol, hnl, hk, ← Nat.add_mul]
      congr 1
      omega
    · have : ∃ u, (olds ++ news)[j * k + i']? = some u ∧ MS Γ.I w (row y i') u := by
        by_cases hj : j < l.length
        · rw [List.getElem?_append_left hj] at hy
          obtain ⟨u, h1, h2⟩ := hom j y hy i' hi'
          have : j * k + i' < olds.length := (List.getElem?_eq_some_iff.1 h1).1
          exact ⟨u, by rw [List.getElem?_append_left this]; exact h1, h2⟩
        · rw [List.getElem?_append_right (by omega)] at hy
          obtain ⟨u, h1, h2⟩ := get_flat k row xs news hm _ y hy i' hi'
          refine ⟨u, ?_, h2⟩
          have hge' : l.length * k ≤ j * k := Nat.mul_le_mul_right _ (by omega)
          rw [List.getElem?_append_right (by rw [hol]; omega), hol]
          rw [show j * k + i' - l.length * k = (j - l.length) * k + i' by rw [Nat.sub_mul]; omega]
          exact h1
      obtain ⟨u, h1, h2⟩ := this
      refine ⟨u, ?_, MS.mono (fun b hb => hb) (fun b hb => hpre b ⟨hh.ilt b hb, fun id o hid hf => (hh.lt id o b hid hf).2 hb⟩) h2⟩
      have hlt' : j * k + i' < (olds ++ news).length := (List.getElem?_eq_some_iff.1 h1).1
      rw [Array.getElem?_append_left (by simp at hlt' ⊢; omega)]
      rw [← h1]
      simp
    · obtain ⟨h1, _⟩ := hb
      rw [mk_ρ] at h1
      subst h1
      exact ⟨by rw [alloc_size]; show w.heap.size < w.heap.size + 1; omega, fun hi => by have := hh.ilt _ hi; omega, fun hp => by have := hp.1; omega⟩
  rcases hs with ⟨rfl, rfl⟩ | ⟨id, hid, rfl⟩
  · by_cases hx0 : xs = []
    · subst hx0
      have hr := (app_room (ty := ty) ht hu hdu hi hn hx none 0 0 (Nat.le_refl 0)).1 rfl
      refine ⟨_, w, 0, hr, ?_, rfl⟩
      refine new_post hh hd rfl rfl rfl (Nat.le_refl _) (fun b hb => rfl) (.inl ⟨by rw [mk_η]; rfl, rfl⟩) fun b hb => ?_
      obtain ⟨_, h2⟩ := hb
      simp only [mk_η] at h2
      exact absurd rfl h2
    · have hpos : 0 < xs.length := List.length_pos_iff.2 hx0
      exact grow none 0 [] rfl (by simp) (by simp) (fun w' _ => by simp [Builtin.firstCells]) (by simpa using hpos)
  · have hne : id ≠ d := fun e => by subst e; rw [hid] at hd; cases hd
    rcases hh.objs id _ hid with ⟨hη, rfl⟩ | ⟨cap, cur, hη, hb, hlc, hcm, hcs, hmm⟩
    · rw [hη]
      by_cases hx0 : xs = []
      · subst hx0
        have hr := (app_room (ty := ty) ht hu hdu hi hn hx none 0 0 (Nat.le_refl 0)).1 rfl
        refine ⟨_, w, 0, hr, ?_, rfl⟩
        refine new_post hh hd rfl rfl rfl (Nat.le_refl _) (fun b hb => rfl) (.inl ⟨by rw [mk_η]; rfl, rfl⟩) fun b hb => ?_
        obtain ⟨_, h2⟩ := hb
        simp only [mk_η] at h2
        exact absurd rfl h2
      · have hpos : 0 < xs.length := List.length_pos_iff.2 hx0
        have := grow none 0 [] hη (by simp) (by simp) (fun w' _ => by simp [Builtin.firstCells]) (by simpa using hpos)
        rwa [hη] at this
    · by_cases hroom : l.length + xs.length ≤ cap
      · have hmul : (l.length + xs.length) * k ≤ cap * k := Nat.mul_le_mul_right _ hroom
        rw [Nat.add_mul] at hmul
        have hst := run_storeCells_at P (Γ.ρ id) (l.length * i.size) e news 0 cur w hb (by rw [hk, hnl, hcs]; omega) hm.one
        simp only [Nat.add_zero, hk] at hst
        have hr := (app_room (ty := ty) ht hu hdu hi hn hx (some ⟨Γ.ρ id, 0, none⟩) l.length cap hroom).2 _ _ rfl (by rw [add_mk, Nat.zero_add, hk]; exact hst)
        rw [hη]
        refine ⟨_, _, Γ.ρ id, hr, ?_, rfl⟩
        have hlen : (l ++ xs).length = l.length + xs.length := List.length_append
        have hfpid : fp Γ id (.grow e k α dd row l) (Γ.ρ id) := ⟨rfl, by rw [hη]; simp⟩
        have hoth : ∀ b, b ≠ Γ.ρ id → (w.setRow (Γ.ρ id) (cur.toList.take (l.length * k) ++ news ++ cur.toList.drop (l.length * k + news.length)).toArray).heap[b]? = w.heap[b]? := fun b hb => setRow_other w _ b _ hb
        have hlk : l.length * k ≤ cur.size := by rw [hcs]; exact Nat.mul_le_mul_right _ hlc
        refine new_post hh hd rfl rfl rfl (by rw [setRow_size]; exact Nat.le_refl _) (fun b hb => hoth b fun e => hb.2 id _ hid (by rw [e]; exact hfpid)) (.inr ⟨cap, (cur.toList.take (l.length * k) ++ news ++ cur.toList.drop (l.length * k + news.length)).toArray,
          by rw [mk_η, mk_ρ, hlen], by rw [mk_ρ]; exact setRow_heap w _ cur _ e _ hb, by rw [hlen]; exact hroom, hcm, ?_, fun j y hy i' hi' => ?_⟩) fun b hb' => ?_
        · simp only [List.size_toArray, List.length_append, List.length_take, List.length_drop, Array.length_toList]
          omega
        · have : ∃ u, (cur.toList.take (l.length * k) ++ news)[j * k + i']? = some u ∧ MS Γ.I w (row y i') u := by
            by_cases hj : j < l.length
            · rw [List.getElem?_append_left hj] at hy
              obtain ⟨u, h1, h2⟩ := hmm j y hy i' hi'
              have hlt : j * k + i' < l.length * k := by
                have : (j + 1) * k ≤ l.length * k := Nat.mul_le_mul_right _ hj
                rw [Nat.add_mul] at this; omega
              exact ⟨u, by rw [List.getElem?_append_left (by simp; omega), List.getElem?_take_of_lt hlt, Array.getElem?_toList]; exact h1, h2⟩
            · rw [List.getElem?_append_right (by omega)] at hy
              obtain ⟨u, h1, h2⟩ := get_flat k row xs news hm _ y hy i' hi'
              refine ⟨u, ?_, h2⟩
              have hge' : l.length * k ≤ j * k := Nat.mul_le_mul_right _ (by omega)
              have htl : (cur.toList.take (l.length * k)).length = l.length * k := by simp; omega
              rw [List.getElem?_append_right (by rw [htl]; omega), htl]
              rw [show j * k + i' - l.length * k = (j - l.length) * k + i' by rw [Nat.sub_mul]; omega]
              exact h1
          obtain ⟨u, h1, h2⟩ := this
          have hlt' := (List.getElem?_eq_some_iff.1 h1).1
          refine ⟨u, ?_, MS.mono (fun b hb => hb) (fun b hb => hoth b fun e => (hh.lt id _ _ hid hfpid).2 (e ▸ hb)) h2⟩
          rw [List.getElem?_toArray, List.getElem?_append_left hlt']
          exact h1
        · obtain ⟨h1, _⟩ := hb'
          rw [mk_ρ] at h1
          subst h1
          exact ⟨by rw [setRow_size]; exact fp_lt hh hid hfpid, (hh.lt id _ _ hid hfpid).2, fun hp => hp.2 id _ hid hfpid⟩
      · have hη' := hη
        rw [← hη'] at *
        have holds : ∀ j v, (cur.toList.take (l.length * k))[j]? = some v → w.cell? ((⟨Γ.ρ id, 0, none⟩ : Addr).add j) = some v := fun j v hj => by
          rw [add_mk, Nat.zero_add, cell_of_heap hb]
          by_cases hjs : j < l.length * k
          · rw [List.getElem?_take_of_lt hjs, Array.getElem?_toList] at hj; exact hj
          · rw [List.getElem?_take, if_neg hjs] at hj; cases hj
        have hlk : l.length * k ≤ cur.size := by rw [hcs]; exact Nat.mul_le_mul_right _ hlc
        refine grow (some ⟨Γ.ρ id, 0, none⟩) cap (cur.toList.take (l.length * k)) hη (by simp; omega) (fun j y hy i' hi' => ?_) (fun w' hw' => ?_) (by omega)
        · obtain ⟨u, h1, h2⟩ := hmm j y hy i' hi'
          have hj : j < l.length := (List.getElem?_eq_some_iff.1 hy).1
          have hlt : j * k + i' < l.length * k := by
            have : (j + 1) * k ≤ l.length * k := Nat.mul_le_mul_right _ hj
            rw [Nat.add_mul] at this; omega
          exact ⟨u, by rw [List.getElem?_take_of_lt hlt, Array.getElem?_toList]; exact h1, h2⟩
        · exact run_firstCells_some w' i.size l.length _ l.length cap _ (by simp [hk]; omega) (fun j v hj => by
            have := holds j v hj
            unfold World.cell? at this ⊢
            rw [hw']; exact this)
end AL
