/- An abstract logic, 22: a step looks at its operands and the objects that it names, and at nothing else. No condition. -/
import Derived.Test.YtphkoklgdkimmaaAL21
namespace AL
open Go
set_option linter.unusedVariables false
set_option linter.unusedSimpArgs false

theorem evV_congr {P : Program} {obj : Nat → Option AObj} {val val' : Operand → AV} {op : Op} (hv : ∀ x ∈ op.operands.toList, val' x = val x) : evV P obj val' op = evV P obj val op := by
  cases op
  case call c =>
    have ha : ∀ x ∈ c.args.toList, val' x = val x := fun x hx => hv x (by simp only [Op.operands, Call.operands, Array.toList_append]; exact List.mem_append_right _ hx)
    have hm : c.args.toList.map val' = c.args.toList.map val := List.map_congr_left ha
    unfold evV
    simp only [hm]
    split <;> try rfl
    split <;> try rfl
    rename_i x T e1 e2
    rw [ha x (by rw [e1]; simp)]
  case build t ps =>
    have : (ps.toList.map fun p => (p.1, val' p.2)) = ps.toList.map fun p => (p.1, val p.2) := List.map_congr_left fun p hp => by
      rw [hv p.2 (by simp only [Op.operands, Array.toList_map]; exact List.mem_map.2 ⟨p, hp, rfl⟩)]
    simp only [evV, this]
  case makeFunc f first caps =>
    have : caps.toList.map val' = caps.toList.map val := List.map_congr_left fun x hx => hv x (by simp [Op.operands, hx])
    simp only [evV, this]
  case slice t x lo hi mx => cases lo <;> cases hi <;> cases mx <;> simp_all [evV, Op.operands]
  all_goals first | rfl | (simp_all [evV, Op.operands]; done)

section
variable {P : Program} {obj obj' : Nat → Option AObj} (ho : ∀ id o, obj id = some o → obj' id = some o)
include ho

theorem evIndexAddr_mono {T v ix r} (h : evIndexAddr P obj T v ix = some r) : evIndexAddr P obj' T v ix = some r := by
  unfold evIndexAddr at h ⊢
  split at h
  · split at h
    · rename_i e hu
      (try simp only [hu])
      split at h
      · exact h
      · split at h
        · rename_i id _ _ _ _ _ _ ho'
          simp only [ho _ _ ho']; exact h
        · cases h
      · cases h
    · rename_i N e hu
      (try simp only [hu])
      split at h
      · split at h
        · rename_i ho'; simp only [ho _ _ ho']; exact h
        · rename_i ho'; simp only [ho _ _ ho']; exact h
        · cases h
      · first | exact h | cases h
      · cases h
    · cases h
  · cases h

theorem evLoad_mono {T v r} (h : evLoad P obj T v = some r) : evLoad P obj' T v = some r := by
  unfold evLoad at h ⊢
  split at h
  · split at h
    · split at h
      · rename_i ho'; simp only [ho _ _ ho']; exact h
      · rename_i ho'; simp only [ho _ _ ho']; exact h
      · cases h
    · exact h
    · split at h
      · rename_i ho'; simp only [ho _ _ ho']; exact h
      · rename_i ho'; simp only [ho _ _ ho']; exact h
      · cases h
    · cases h
  · cases h

theorem evLen_mono {T v r} (h : evLen P obj T v = some r) : evLen P obj' T v = some r := by
  unfold evLen at h ⊢
  split at h
  · rename_i hu; (try simp only [hu]); exact h
  · rename_i hu; (try simp only [hu]); exact h
  · rename_i hu; (try simp only [hu]); exact h
  · rename_i hu
    (try simp only [hu])
    split at h
    · rename_i ho'; simp only [ho _ _ ho']; exact h
    · cases h
  · rename_i hu; (try simp only [hu]); exact h
  · cases h

theorem evV_obj {val : Operand → AV} {op r} (h : evV P obj val op = some r) : evV P obj' val op = some r := by
  cases op
  case indexAddr T x i => exact evIndexAddr_mono ho h
  case load T x => exact evLoad_mono ho h
  case call c =>
    simp only [evV] at h ⊢
    split at h
    · split at h
      · exact evLen_mono ho h
      · cases h
    · exact h
    · exact h
    · exact h
    · cases h
  all_goals exact h

theorem evV_mono {val val' : Operand → AV} {op r} (h : evV P obj val op = some r) (hv : ∀ x ∈ op.operands.toList, val' x = val x) : evV P obj' val' op = some r := by
  rw [evV_congr hv]; exact evV_obj ho h

theorem evSrc_mono {k v r} (h : evSrc obj k v = some r) : evSrc obj' k v = some r := by
  unfold evSrc at h ⊢
  split at h
  · exact h
  · split at h
    · rename_i ho'; simp only [ho _ _ ho']; exact h
    · cases h
  · exact h
  · exact h
  · cases h

/-- An effect, told over other owned objects. -/
def Eff.at (f : Eff) (obj : Nat → Option AObj) : Eff := ⟨f.conds, f.res, obj, f.hin, f.new⟩

omit ho in
theorem evNew_at {dst cells ce f} (h : evNew obj dst cells ce = some f) : evNew obj' dst cells ce = some (f.at obj') := by
  unfold evNew at h ⊢
  split at h
  · split at h
    · cases h
    · rename_i hd
      (try rw [if_neg hd])
      split at h
      · cases h; rfl
      · cases h; rfl
      · cases h
  · cases h

theorem evAppend_at {dst t u s x ce f} (h : evAppend P obj dst t u s x ce = some f) : evAppend P obj' dst t u s x ce = some (f.at obj') := by
  unfold evAppend at h ⊢
  split at h
  · rename_i d e du o hu1 hu2
    (try simp only [hu1, hu2])
    split at h
    · rename_i i hi
      split at h
      · cases h
      · rename_i hn
        (try simp only [hn, if_false])
        split at h
        · rename_i cells n hsrc
          simp only [evSrc_mono ho hsrc]
          split at h
          · cases h; rfl
          · split at h
            · rename_i ho'
              simp only [ho _ _ ho']
              split at h
              · rename_i hc; (try rw [if_pos hc]); cases h; rfl
              · cases h
            · cases h
          · cases h
        · cases h
    · cases h
  · cases h

theorem evCopy_at {t s x ce f} (h : evCopy P obj t s x ce = some f) : evCopy P obj' t s x ce = some (f.at obj') := by
  unfold evCopy at h ⊢
  split at h
  · split at h
    · rename_i hu hob
      simp only [hu, ho _ _ hob]
      split at h
      · rename_i hi
        (try simp only [hi])
        split at h
        · rename_i hsrc
          simp only [evSrc_mono ho hsrc]
          split at h
          · rename_i hc; rw [if_pos hc]; cases h; rfl
          · cases h
        · cases h
      · cases h
    · cases h
  · cases h

theorem evE0_at {val val' : Operand → AV} {o : Oper} {ce f} (h : evE0 P obj val o ce = some f) (hv : ∀ x ∈ o.op.operands.toList, val' x = val x) : evE0 P obj' val' o ce = some (f.at obj') := by
  unfold evE0 at h ⊢
  split at h
  · rename_i T e
    (try simp only [e])
    unfold evAlloc at h ⊢
    split at h
    · exact evNew_at h
    · cases h
  · rename_i T x e
    (try simp only [e])
    rw [hv x (by simp [e, Op.operands])]
    unfold evBox at h ⊢
    split at h
    · rename_i heq
      (try simp only [heq])
      split at h
      · cases h; rfl
      · cases h
    · split at h
      · exact evNew_at h
      · cases h
  · rename_i T len parts e
    have : (parts.toList.map fun p => (p.1, val' p.2)) = parts.toList.map fun p => (p.1, val p.2) := List.map_congr_left fun p hp => by
      rw [hv p.2 (by simp only [e, Op.operands, Array.toList_map]; exact List.mem_map.2 ⟨p, hp, rfl⟩)]
    simp only [e, this]
    unfold evBuildSlice at h ⊢
    split at h
    · rename_i hu
      (try simp only [hu])
      split at h
      · rename_i h1 h2
        (try simp only [h1, h2])
        split at h
        · rename_i hc
          (try rw [if_pos hc])
          split at h
          · rename_i hf; (try simp only [hf]); cases h; rfl
          · cases h
        · cases h
      · cases h
    · cases h
  · rename_i T l c e
    (try simp only [e])
    rw [hv l (by simp [e, Op.operands]), hv c (by simp [e, Op.operands])]
    unfold evMakeSlice at h ⊢
    split at h
    · rename_i hu
      (try simp only [hu])
      split at h
      · rename_i h1 h2 h3 h4
        (try simp only [h1, h2, h3, h4])
        split at h
        · rename_i hc; (try rw [if_pos hc]); cases h; rfl
        · cases h
      · cases h
    · cases h
  · rename_i c e
    (try simp only [e])
    split at h
    · rename_i hcal
      (try simp only [hcal])
      split at h
      · rename_i s x t u e1 e2
        (try simp only [e1, e2])
        rw [hv s (by simp [e, Op.operands, Call.operands, hcal, e1]), hv x (by simp [e, Op.operands, Call.operands, hcal, e1])]
        split at h
        · rename_i hu
          (try simp only [hu])
          unfold evAppZero at h ⊢
          split at h
          · rename_i q1 q2 q3 q4
            (try simp only [q1, q2, q3, q4])
            split at h
            · rename_i q5 q6
              (try simp only [q5, q6])
              split at h
              · rename_i q7; (try rw [if_pos q7]); cases h; rfl
              · cases h
            · cases h
          · cases h
        · exact evAppend_at ho h
      · cases h
    · rename_i hcal
      (try simp only [hcal])
      split at h
      · rename_i s x t u e1 e2
        (try simp only [e1, e2])
        rw [hv s (by simp [e, Op.operands, Call.operands, hcal, e1]), hv x (by simp [e, Op.operands, Call.operands, hcal, e1])]
        exact evCopy_at ho h
      · cases h
    · cases h
  · rename_i T x lo hi mx e
    (try simp only [e])
    have hm : ∀ (q : Option Operand), (∀ y, q = some y → y ∈ o.op.operands.toList) → q.map val' = q.map val := fun q hq => by
      cases q with
      | none => rfl
      | some y => simp only [Option.map_some, hv y (hq y rfl)]
    rw [hv x (by simp [e, Op.operands]), hm lo fun y hy => by simp [e, Op.operands, hy], hm hi fun y hy => by simp [e, Op.operands, hy], hm mx fun y hy => by simp [e, Op.operands, hy]]
    unfold evCutOwn at h ⊢
    split at h
    · rename_i e1 e2 e3 e4
      (try simp only [e1, e2, e3, e4])
      split at h
      · rename_i hu hx
        simp only [hu, ho _ _ hx]
        split at h
        · cases h
        · rename_i hn
          rw [if_neg hn]
          split at h
          · rename_i hq; rw [if_pos hq]; cases h; rfl
          · cases h
      · cases h
    · cases h
  · cases h

omit ho in
theorem shr_at {f f'} (h : shr f = some f') : shr (f.at obj') = some (f'.at obj') := by
  unfold shr at h
  split at h
  · rename_i d o d' e1 e2
    split at h
    · rename_i hd
      split at h
      · rename_i hz
        cases h
        unfold shr
        simp only [Eff.at, e1, e2, hd, hz, if_true]
      · cases h
    · cases h
  · rename_i d o d' e1 e2
    split at h
    · rename_i hd
      split at h
      · rename_i hz
        cases h
        unfold shr
        simp only [Eff.at, e1, e2, hd, hz, if_true]
      · cases h
    · cases h
  · cases h

theorem evE_at {val val' : Operand → AV} {o : Oper} {ce f} (h : evE P obj val o ce = some f) (hv : ∀ x ∈ o.op.operands.toList, val' x = val x) : evE P obj' val' o ce = some (f.at obj') := by
  unfold evE at h ⊢
  split at h
  · simp only [Option.bind_eq_some_iff] at h ⊢
    obtain ⟨f0, h1, h2⟩ := h
    exact ⟨_, evE0_at ho h1 hv, shr_at h2⟩
  · exact evE0_at ho h hv

theorem evStore_at {T a x ce f} (h : evStore P obj T a x ce = some f) : evStore P obj' T a x ce = some (f.at obj') := by
  unfold evStore at h ⊢
  split at h
  · rename_i i l h1 h2
    (try simp only [h1, h2])
    split at h
    · rename_i hc
      (try rw [if_pos hc])
      split at h
      · split at h
        · rename_i ho'
          simp only [ho _ _ ho']
          split at h
          · rename_i hc; (try rw [if_pos hc]); cases h; rfl
          · cases h
        · cases h
      · split at h
        · rename_i ho'
          simp only [ho _ _ ho']
          split at h
          · rename_i hc; (try rw [if_pos hc]); cases h; rfl
          · cases h
        · cases h
      · cases h
    · cases h
  · cases h
end
end AL
