/- An abstract logic, 38: functions that take one owned struct by pointer, and leave it changed. No condition. -/
import Derived.Test.YtfdappjogpngiaaDoorALe
namespace AL
open Go
set_option linter.unusedVariables false

def RetIO (P : Program) (fn : Func) (res : AV) (D : Nat) (o : AObj) (e : Exit) (s : AS) : Prop :=
  (e = .ret ∨ e = .normal) ∧ ∃ r o', evRes P fn s = some r ∧ r = res ∧ s.obj D = some o' ∧ o' = o ∧ Nat.ble s.n D = true

theorem IO.of_body {P : Program} {f : FuncId} {fn : Func} {c : Code} {rest : List TV} {res : AV} {n D : Nat} {row row' : List AC} (hf : P.funcs[f]? = some fn) (hb : fn.body = some c) (hn : (fn.name == "runtime.NumGoroutine") = false)
    (hnt : fn.ntmps = n) (hle : Nat.ble (rest.length + 1) n = true) (hno : res.no = true) (hr : tvsNo rest = true) (hi : acsNo row = true) (ho : acsNo row' = true)
    (h : AMx P (RetIO P fn res D (.row row')) [.code c] .normal (AS.lst n (argRegs 0 (.c (.ptr D 0) :: rest)) [(D, .row row)])) (d : Nat) :
    Spec P f (.c (.ptr d 0) :: rest) (ofH [(d, .row row)]) res (ofH [(d, .row row')]) := by
  refine ⟨⟨fn, hf, by rw [hb]; rfl, hn⟩, fun Γ w cargs hh hm => ?_⟩
  refine calls_of_wp hf hb ?_
  let Γ1 : Ctx := ⟨Γ.I, fun j => bif Nat.beq j D then Γ.ρ d else Γ.ρ j, fun j => bif Nat.beq j D then Γ.η d else Γ.η j⟩
  have er : Γ1.ρ D = Γ.ρ d := by show (bif Nat.beq D D then _ else _) = _; rw [Nat.beq_refl]; rfl
  have hx1 : Ext (fun _ => True) Γ w Γ1 w := ⟨fun b hb => hb, fun b hb => rfl, fun id h => absurd trivial h⟩
  have hfp : ∀ o b, fp Γ1 D (.row o) b ↔ fp Γ d (.row o) b := fun o b => by unfold fp; rw [er]
  have hh1 : HeapOk Γ1 (ofH [(D, .row row)]) w := by
    refine ⟨fun j o hj => ?_, fun j o b hj hb => ?_, fun j o j' o' b hj hj' _ _ => ?_, hh.ilt, hh.glob⟩
    · obtain ⟨rfl, rfl⟩ := ofH_one.1 hj
      obtain ⟨cs, T, h1, h2⟩ := hh.objs d _ (ofH_one.2 ⟨rfl, rfl⟩)
      exact ⟨cs, T, by rw [er]; exact h1, MCs.ext hx1 (acsNo_has row hi) h2⟩
    · obtain ⟨rfl, rfl⟩ := ofH_one.1 hj
      exact hh.lt d _ b (ofH_one.2 ⟨rfl, rfl⟩) ((hfp _ _).1 hb)
    · obtain ⟨rfl, _⟩ := ofH_one.1 hj
      obtain ⟨rfl, _⟩ := ofH_one.1 hj'
      rfl
  have hm1 : MTs Γ1 w (.c (.ptr D 0) :: rest) cargs.toList := by
    revert hm
    cases cargs.toList with
    | nil => intro h; exact h.elim
    | cons v l =>
      intro h
      refine ⟨?_, MTs.ext hx1 (tvsNo_has rest hr) h.2⟩
      have h0 : v = .pointer (some ⟨Γ.ρ d, 0, none⟩) := h.1
      show v = .pointer (some ⟨Γ1.ρ D, 0, none⟩)
      rw [er]; exact h0
  have hpr : prOf Γ1 (ofH [(D, .row row)]) w = prOf Γ (ofH [(d, .row row)]) w := by
    funext b
    apply propext
    constructor
    · rintro ⟨h1, h2⟩
      refine ⟨h1, fun j o hj hb => ?_⟩
      obtain ⟨rfl, rfl⟩ := ofH_one.1 hj
      exact h2 D _ (ofH_one.2 ⟨rfl, rfl⟩) ((hfp _ _).2 hb)
    · rintro ⟨h1, h2⟩
      refine ⟨h1, fun j o hj hb => ?_⟩
      obtain ⟨rfl, rfl⟩ := ofH_one.1 hj
      exact h2 d _ (ofH_one.2 ⟨rfl, rfl⟩) ((hfp _ _).1 hb)
  have hC := body_start (P := P) (H := [(D, .row row)]) hnt (by exact hle) hh1 hm1
  refine wp_mono (h _ _ _ _ hC) ?_
  rintro e a' w' ⟨s', Γ', ⟨he, r, _, hr, rfl, hD', rfl, hsn⟩, hC'⟩
  obtain ⟨v, h1, h2, h3⟩ := res_ok (P := P) (fn := fn) hC' hr
  have hpost : a'.defers = [] ∧ ∃ v, (results fn a'.tmps).run P w' = Result.ok v w' ∧ ∃ v_1 Γ', Ending.returned v = .returned v_1 ∧ MV Γ' (ofH [(d, .row row')]) w' r v_1 ∧ HeapOk Γ' (ofH [(d, .row row')]) w' ∧ GOk ⟨w, prOf Γ (ofH [(d, .row row)]) w, Γ.I, Γ.ρ, Γ.η⟩ Γ' (ofH [(d, .row row')]) w' ∧ Agree (fun id => ofH [(d, .row row')] id ≠ none ∧ ofH [(d, .row row)] id = none) Γ Γ' := by
    let Γ2 : Ctx := ⟨Γ'.I, Γ.ρ, Γ.η⟩
    have hx : Ext (fun _ => True) Γ' w' Γ2 w' := ⟨fun b hb => hb, fun b hb => rfl, fun id h => absurd trivial h⟩
    have eD : Γ'.ρ D = Γ.ρ d := by
      have := (hC'.ids D (Nat.le_of_ble_eq_true hsn)).1
      exact this.trans er
    have hfp2 : ∀ b, fp Γ2 d (.row row') b → fp Γ' D (.row row') b := fun b hb => by
      unfold fp at hb ⊢
      rw [eD]; exact hb
    have hg := hC'.g
    rw [hpr] at hg
    refine ⟨hC'.defers, v, h1, v, Γ2, rfl, MV.ext hx (fun id o h => absurd trivial h) (AV.no_has r hno) (plain_obj (obj' := ofH [(d, .row row')]) h3 h2), ⟨fun j o hj => ?_, fun j o b hj hb => ?_, fun j o j' o' b hj hj' _ _ => ?_, hC'.heap.ilt, hC'.heap.glob⟩,
      ⟨hg.os, hg.tape, hg.output, hg.size, hg.prlt, hg.keep, hg.sub, hg.bak, fun j o b hj hb => ?_⟩, fun _ _ => ⟨rfl, rfl⟩⟩
    · obtain ⟨rfl, rfl⟩ := ofH_one.1 hj
      obtain ⟨cs, T, q1, q2⟩ := hC'.heap.objs D _ hD'
      exact ⟨cs, T, by rw [show Γ2.ρ j = Γ'.ρ D from eD.symm]; exact q1, MCs.ext hx (acsNo_has row' ho) q2⟩
    · obtain ⟨rfl, rfl⟩ := ofH_one.1 hj
      exact hC'.heap.lt D _ b hD' (hfp2 b hb)
    · obtain ⟨rfl, _⟩ := ofH_one.1 hj
      obtain ⟨rfl, _⟩ := ofH_one.1 hj'
      rfl
    · obtain ⟨rfl, rfl⟩ := ofH_one.1 hj
      exact hg.own D _ b hD' (hfp2 b hb)
  rcases he with rfl | rfl
  · exact hpost
  · exact hpost
end AL
