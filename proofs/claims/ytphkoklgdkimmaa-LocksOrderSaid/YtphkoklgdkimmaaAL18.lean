/- An abstract logic, 18: each step of a region is carried out by the model as the evaluator says. No condition. -/
import Derived.Test.YtphkoklgdkimmaaAL17
namespace AL
open Go
set_option linter.unusedVariables false

/-- In state s the operation o, whatever stands behind it, leaves s'. -/
def Step (P : Program) (ops : Array Oper) (o : Oper) (s s' : AS) : Prop :=
  ∀ G Γ a w Q K, Conc G Γ s a w → (∀ Γ' a' w', Conc G Γ' s' a' w' → K a' w') → wpO P ops Q o K a w

theorem wp_value {P : Program} {o : Oper} {a : Act} {w w' : World} {v : Value} {K : Act → World → Prop} {Q : Exit → Act → World → Prop} (h : (execOp a.eval o).run P w = Result.ok (.value v) w') (hk : K (a.put o.dst v) w') : o.wp P a w K Q := by
  unfold Oper.wp; rw [h]; exact hk

theorem wp_skip' {P : Program} {o : Oper} {a : Act} {w w' : World} {K : Act → World → Prop} {Q : Exit → Act → World → Prop} (h : (execOp a.eval o).run P w = Result.ok .skip w') (hk : K (a.put o.dst undef) w') : o.wp P a w K Q := by
  unfold Oper.wp; rw [h]; exact hk

theorem wp_enter {P : Program} {o : Oper} {a : Act} {w w' : World} {f : FuncId} {args : Array Value} {K : Act → World → Prop} {Q : Exit → Act → World → Prop} {R : Ending → World → Prop} (h : (execOp a.eval o).run P w = Result.ok (.enter f args) w') (hc : Calls P f args w' R)
    (hk : ∀ e w'', R e w'' → ∃ v, e = .returned v ∧ K (a.put o.dst v) w'') : o.wp P a w K Q := by
  unfold Oper.wp; rw [h, Oper.upon_enter]
  refine hc.mono fun e w'' hr => ?_
  obtain ⟨v, rfl, hv⟩ := hk e w'' hr
  exact hv

theorem val_strip {G Γ s a w op} (h : Conc G Γ s a w) (hc : allP (condsOf s op)) : ∀ x ∈ op.operands.toList, MV Γ s.obj w (s.val x).strip (a.eval x) :=
  fun x hx => strip_ok (val_ok h x) (cond_operand hc hx)

theorem pick_ok {P : Program} {G Γ s a w c x y r} {o : Oper} (he : o.op = .pick c x y) (h : Conc G Γ s a w) (hp : evPick s c x y = some r) (hc : allP r.1) :
    ∃ v, (execOp a.eval o).run P w = Result.ok (.value v) w ∧ MV Γ s.obj w r.2 v := by
  have hrun : ∀ b : Bool, a.eval c = .bool b → (execOp a.eval o).run P w = Result.ok (.value (if b then a.eval x else a.eval y)) w := by
    intro b hb
    unfold execOp
    simp only [he]
    simp [hb, asBool]
  unfold evPick at hp
  split at hp
  · rename_i cb hcb
    split at hp
    · split at hp
      · rename_i z hz
        cases hp
        rw [allP_append] at hc
        obtain ⟨h1, h2⟩ := hc
        have hcv := strip_ok (val_ok h c) h1
        rw [hcb] at hcv
        have h2 : cb = false → allP (s.val y).cond := h2
        refine ⟨_, hrun cb hcv, ?_⟩
        cases cb
        · have := strip_ok (val_ok h y) (h2 rfl)
          rw [hz] at this
          simpa using this
        · rfl
      · cases hp
    · split at hp
      · rename_i z hz
        cases hp
        rw [allP_append] at hc
        obtain ⟨h1, h2⟩ := hc
        have hcv := strip_ok (val_ok h c) h1
        rw [hcb] at hcv
        have h2 : cb = true → allP (s.val x).cond := h2
        refine ⟨_, hrun cb hcv, ?_⟩
        cases cb
        · rfl
        · have := strip_ok (val_ok h x) (h2 rfl)
          rw [hz] at this
          simpa using this
      · cases hp
    · cases hp
  · cases hp

theorem wanted_none {o : Oper} {y : Nat → Option Bool} (h : o.guard = none) : Region.wanted o y = true := by simp [Region.wanted, h]

theorem ev1_ok {P : Program} {ops : Array Oper} {s s' : AS} {o : Oper} {ce cs} (hg : o.guard = none) (h : ev1 P s o ce = some (cs, s')) (hc : allP cs) : Step P ops o s s' := by
  intro G Γ a w Q K hC hK
  unfold wpO
  rw [if_pos (wanted_none hg)]
  left
  unfold ev1 at h
  split at h
  · rename_i hd
    have hd := okDst_ok hd
    split at h
    · rename_i x e
      cases h
      exact wp_value (v := a.eval x) (by unfold execOp; simp only [e]; rfl) (hK _ _ _ (conc_set hC hd (val_ok hC x)))
    · rename_i x e
      cases h
      exact wp_value (v := a.eval x) (by unfold execOp; simp only [e]; rfl) (hK _ _ _ (conc_set hC hd (val_ok hC x)))
    · rename_i c x y e
      simp only [Option.map_eq_some_iff, Prod.mk.injEq] at h
      obtain ⟨r, hp, rfl, rfl⟩ := h
      obtain ⟨v, hr, hv⟩ := pick_ok (P := P) e hC hp hc
      exact wp_value hr (hK _ _ _ (conc_set hC hd hv))
    · rename_i T ad x e
      split at h
      · rename_i hdst
        split at h
        case h_2 => cases h
        rename_i f hf
        split at h
        case isFalse => cases h
        rename_i hids
        simp only [Option.some.injEq, Prod.mk.injEq] at h
        obtain ⟨rfl, rfl⟩ := h
        rw [allP_append] at hc
        have hs := val_strip hC hc.1
        obtain ⟨h1, h2, w', h3, h4⟩ := evStore_ok (P := P) hC.heap hf (hs ad (by simp [e, Op.operands])) (hs x (by simp [e, Op.operands])) hc.2
        refine wp_skip' (w' := w') (by unfold execOp; simp only [e]; simp [h3]) ?_
        rw [effSt_eq] at hK
        rw [hdst]
        refine hK _ _ _ (eff_conc (v := undef) (dst := none) (f := ⟨[], .any, f.obj, f.hin, f.new⟩) ?_ (by rw [h1]; exact h2) h4 (.inl rfl) (.inl rfl) (fun d hd => by cases hd) hids)
        rw [h1]
        exact hC
      · cases h
    · split at h
      · rename_i r hev
        simp only [Option.some.injEq, Prod.mk.injEq] at h
        obtain ⟨rfl, rfl⟩ := h
        rw [allP_append] at hc
        obtain ⟨v, hr, hv⟩ := evV_ok (P := P) (o := o) (r := r.2) (cs := r.1) hev (val_strip hC hc.1) hC.heap hc.2
        exact wp_value hr (hK _ _ _ (conc_set hC hd hv))
      · split at h
        · rename_i f hf
          split at h
          case isFalse => cases h
          rename_i hids
          simp only [Option.some.injEq, Prod.mk.injEq] at h
          obtain ⟨rfl, rfl⟩ := h
          rw [allP_append] at hc
          obtain ⟨run, ⟨h1, h2, h3, v, w', Γ', h4, h5, h6⟩, h7⟩ := evE_ok (P := P) hC.heap hf (val_strip hC hc.1) hc.2
          rw [h4] at h7
          rw [effSt_eq] at hK
          refine wp_value h7 (hK _ _ _ (eff_conc ?_ (by rw [h1]; exact h2) h5 (.inr h3) (.inr h6) hd hids))
          rw [h1]
          exact hC
        · split at h
          · rename_i c e
            split at h
            case h_2 => cases h
            rename_i f hf
            split at h
            case isFalse => cases h
            rename_i hids
            simp only [Option.some.injEq, Prod.mk.injEq] at h
            obtain ⟨rfl, rfl⟩ := h
            rw [allP_append] at hc
            have hs := val_strip hC hc.1
            obtain ⟨h1, Γ1, g1, g2, g3, g4, g5, fid, args, h2, h3⟩ := evCall_ok (P := P) e hC.heap hC.g hf hs hc.2
            have hC1 := conc_obj hC g1 g2 g3 g4
            rw [effSt_eq] at hK
            refine wp_enter h2 h3 ?_
            rintro e' w'' ⟨v, Γ', rfl, h5, h6⟩
            exact ⟨v, rfl, hK _ _ _ (eff_conc hC1 g5 h5 (.inr h1) (.inr h6) hd hids)⟩
          · cases h
  · cases h

theorem guard_spec {G Γ a w} {ops : Array Oper} {s : AS} {j want p} (hC : Conc G Γ s a w) (h : guardP ops s j want = some p) : (yielded ops a.tmps j == some want) = true ↔ p := by
  unfold guardP at h
  split at h
  · rename_i t ht
    have hr := hC.regs t
    split at h
    · rename_i b hb
      cases h
      rw [hb] at hr
      have hr : a.tmps.getD t undef = .bool b := hr
      have : a.tmps[t]? = some (.bool b) := by
        rw [Array.getD_eq_getD_getElem?] at hr
        cases hx : a.tmps[t]? with
        | none => rw [hx] at hr; cases hr
        | some u => rw [hx] at hr; simp at hr; rw [hr]
      simp [yielded, ht, this]
    · rename_i q b hb
      cases h
      rw [hb] at hr
      obtain ⟨h1, h2⟩ := hr
      by_cases hq : q
      · have hr : a.tmps.getD t undef = .bool b := h1 hq
        have : a.tmps[t]? = some (.bool b) := by
          rw [Array.getD_eq_getD_getElem?] at hr
          cases hx : a.tmps[t]? with
          | none => rw [hx] at hr; cases hr
          | some u => rw [hx] at hr; simp at hr; rw [hr]
        simp [yielded, ht, this, hq]
      · have hr := h2 hq
        have hy : yielded ops a.tmps j = none := by
          unfold yielded
          rw [ht]
          simp only [Option.bind_some]
          rw [Array.getD_eq_getD_getElem?] at hr
          cases hx : a.tmps[t]? with
          | none => rfl
          | some u => rw [hx] at hr; simp at hr; rw [hr]; rfl
        rw [hy]
        simp [hq]
    · cases h
  · cases h

theorem ev1g_ok {P : Program} {ops : Array Oper} {s s' : AS} {o : Oper} {ce cs j want} (hg : o.guard = some (j, want)) (h : ev1g P ops s o ce j want = some (cs, s')) (hc : allP cs) : Step P ops o s s' := by
  intro G Γ a w Q K hC hK
  unfold wpO
  unfold ev1g at h
  split at h
  · rename_i hd
    have hd := okDst_ok hd
    split at h
    · rename_i p hp
      have hgs := guard_spec hC hp
      have hw : Region.wanted o (yielded ops a.tmps) = (yielded ops a.tmps j == some want) := by simp [Region.wanted, hg]
      rw [hw]
      split at h
      · rename_i r hev
        simp only [Option.some.injEq, Prod.mk.injEq] at h
        obtain ⟨rfl, rfl⟩ := h
        have hc : p → allP r.1 := hc
        by_cases hpp : p
        · rw [if_pos (hgs.2 hpp)]
          left
          have hcr := hc hpp
          unfold evGv at hev
          split at hev
          · rename_i c x y e
            obtain ⟨v, hr, hv⟩ := pick_ok (P := P) e hC hev hcr
            exact wp_value hr (hK _ _ _ (conc_set hC hd ⟨fun _ => hv, fun h => absurd hpp h⟩))
          · split at hev
            · rename_i r' hev'
              simp only [Option.some.injEq] at hev
              subst hev
              rw [allP_append] at hcr
              obtain ⟨v, hr, hv⟩ := evV_ok (P := P) (o := o) (r := r'.2) (cs := r'.1) hev' (val_strip hC hcr.1) hC.heap hcr.2
              exact wp_value hr (hK _ _ _ (conc_set hC hd ⟨fun _ => hv, fun h => absurd hpp h⟩))
            · cases hev
        · rw [if_neg (fun h => hpp (hgs.1 h))]
          exact hK _ _ _ (conc_set hC hd ⟨fun h => absurd h hpp, fun _ => rfl⟩)
      · split at h
        · rename_i c res e
          split at h
          · rename_i f hf
            simp only [Option.some.injEq, Prod.mk.injEq] at h
            obtain ⟨rfl, rfl⟩ := h
            have hc : p → allP (condsOf s o.op ++ f.conds) := hc
            by_cases hpp : p
            · rw [if_pos (hgs.2 hpp)]
              left
              have hcr := hc hpp
              rw [allP_append] at hcr
              have hs := val_strip hC hcr.1
              obtain ⟨h1, Γ1, g1, g2, g3, g4, g5, fid, args, h2, h3⟩ := evCall_ok (P := P) e hC.heap hC.g hf hs hcr.2
              have hC1 := conc_obj hC g1 g2 g3 g4
              have hff : f.hin = [] ∧ f.new = [] ∧ f.obj = s.obj := by
                unfold evCall at hf
                split at hf
                · rename_i fo fz hin res' new hcal heq
                  injection heq with heq
                  injection heq with q1 q2 q3 q4
                  subst q1 q2 q3 q4
                  split at hf
                  · split at hf
                    · rename_i obj' args' hfr
                      simp only [evFreeze, Option.some.injEq, Prod.mk.injEq] at hfr
                      obtain ⟨rfl, _⟩ := hfr
                      split at hf
                      · cases hf; exact ⟨rfl, rfl, rfl⟩
                      · cases hf
                    · cases hf
                  · cases hf
                · cases hf
              obtain ⟨q1, q2, q3⟩ := hff
              refine wp_enter h2 h3 ?_
              rintro e' w'' ⟨v, Γ', rfl, h5, h6⟩
              refine ⟨v, rfl, hK Γ' _ w'' ?_⟩
              have := eff_conc (dst := none) (v := v) hC1 g5 h5 (.inl rfl) (.inl rfl) (fun d hd => by cases hd) (by unfold effIds; rw [q2]; rfl)
              rw [← effSt_eq] at this
              unfold effSt' at this
              rw [q1, q2] at this
              simp only [AS.set, q3] at this
              exact conc_set (s := s) this hd ⟨fun _ => plain_obj h1 h6, fun h => absurd hpp h⟩
            · rw [if_neg (fun h => hpp (hgs.1 h))]
              exact hK _ _ _ (conc_set hC hd ⟨fun h => absurd h hpp, fun _ => rfl⟩)
          · cases h
        · split at h
          · rename_i f hf
            split at h
            · rename_i q1 q2
              simp only [Option.some.injEq, Prod.mk.injEq] at h
              obtain ⟨rfl, rfl⟩ := h
              have hc : p → allP (condsOf s o.op ++ f.conds) := hc
              by_cases hpp : p
              · rw [if_pos (hgs.2 hpp)]
                left
                have hcr := hc hpp
                rw [allP_append] at hcr
                obtain ⟨run, ⟨h1, h2, h3, v, w', Γ', h4, h5, h6⟩, h7⟩ := evE_ok (P := P) hC.heap hf (val_strip hC hcr.1) hcr.2
                rw [h4] at h7
                refine wp_value h7 (hK Γ' _ w' ?_)
                have hC1 : Conc G Γ ⟨s.n, s.reg, f.obj⟩ a w := by rw [h1]; exact hC
                have := eff_conc (dst := none) (v := v) hC1 (by rw [h1]; exact h2) h5 (.inl rfl) (.inl rfl) (fun d hd => by cases hd) (by unfold effIds; rw [q2]; rfl)
                rw [← effSt_eq] at this
                unfold effSt' at this
                rw [q1, q2] at this
                simp only [AS.set, h1] at this
                exact conc_set (s := s) this hd ⟨fun _ => plain_obj h3 h6, fun h => absurd hpp h⟩
              · rw [if_neg (fun h => hpp (hgs.1 h))]
                exact hK _ _ _ (conc_set hC hd ⟨fun h => absurd h hpp, fun _ => rfl⟩)
            · cases h
          · cases h
        · cases h
    · cases h
  · cases h

theorem evOp_ok {P : Program} {ops : Array Oper} {s s' : AS} {o : Oper} {ce cs} (h : evOp P ops s o ce = some (cs, s')) (hc : allP cs) : Step P ops o s s' := by
  unfold evOp at h
  split at h
  · rename_i hg; exact ev1_ok hg h hc
  · rename_i j want hg; exact ev1g_ok hg h hc
end AL
