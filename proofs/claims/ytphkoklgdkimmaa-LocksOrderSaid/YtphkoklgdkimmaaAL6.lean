/- An abstract logic, 6: slices, lengths, conversions, struct values, equality; all value operations together. No condition. -/
import Derived.Test.YtphkoklgdkimmaaAL5
namespace AL
open Go
set_option linter.unusedVariables false

theorem run_sliceBound {P : Program} {k n code w} {y : Nat} (h0 : 0 ≤ n) (h1 : n ≤ (y : Int)) : (Instr.sliceBound (.int k n) y code).run P w = Result.ok n.toNat w := by
  simp [Instr.sliceBound, run_asIntOf, h0, h1]

/-- The bounds of a slice expression: from, to (to 'len' where none is told). -/
def bnd : Option AV → Option (Option Int)
  | none => some none
  | some (.t (.c (.s (.int _ n)))) => some (some n)
  | _ => none

def loN (lo : Option Int) : Nat := (lo.getD 0).toNat
def hiN (hi : Option Int) (len : Nat) : Nat := match hi with | none => len | some n => n.toNat
def cutL {β : Type} (lo hi : Option Int) (l : List β) : List β :=
  match lo, hi with
  | none, none => l
  | some a, none => l.drop a.toNat
  | none, some b => l.take b.toNat
  | some a, some b => (l.take b.toNat).drop a.toNat

def cutC (lo hi : Option Int) (len : Nat) : List Prop :=
  (match hi with | none => [] | some n => [0 ≤ n, n ≤ len]) ++ (match lo, hi with | none, _ => [] | some n, none => [0 ≤ n, n ≤ len] | some n, some m => [0 ≤ n, n ≤ m])

theorem cutL_eq {β : Type} (lo hi : Option Int) (l : List β) (hc : allP (cutC lo hi l.length)) : cutL lo hi l = (l.take (hiN hi l.length)).drop (loN lo) := by
  cases lo <;> cases hi <;> simp [cutL, hiN, loN]

def IsB : Option Int → Option Value → Prop
  | none, o => o = none
  | some n, o => ∃ k, o = some (.int k n)

theorem bounds_run {P : Program} {isSlice : Bool} {len cap : Nat} {lo hi : Option Value} {blo bhi : Option Int} {w : World}
    (hlo : IsB blo lo) (hhi : IsB bhi hi)
    (hc : allP (cutC blo bhi len)) (hcap : len ≤ cap) :
    (Instr.sliceBounds isSlice len cap lo hi none).run P w = Result.ok (loN blo, hiN bhi len, cap) w ∧ loN blo ≤ hiN bhi len ∧ hiN bhi len ≤ len := by
  unfold cutC at hc
  cases bhi with
  | none =>
    obtain rfl : hi = none := hhi
    cases blo with
    | none => obtain rfl : lo = none := hlo; exact ⟨by simp [Instr.sliceBounds, loN, hiN], Nat.zero_le _, Nat.le_refl _⟩
    | some n =>
      obtain ⟨k, rfl⟩ := hlo
      obtain ⟨h0, h1⟩ := hc
      have h0 : 0 ≤ n := h0
      have h1 : n ≤ (len : Int) := h1
      refine ⟨by simp [Instr.sliceBounds, loN, hiN, run_sliceBound h0 h1], ?_, Nat.le_refl _⟩
      show n.toNat ≤ len
      omega
  | some m =>
    obtain ⟨k, rfl⟩ := hhi
    cases blo with
    | none =>
      obtain rfl : lo = none := hlo
      obtain ⟨h0, h1⟩ := hc
      have h0 : 0 ≤ m := h0
      have h1 : m ≤ (len : Int) := h1
      have h2 : m ≤ (cap : Int) := by omega
      refine ⟨by cases isSlice <;> simp [Instr.sliceBounds, loN, hiN, run_sliceBound h0 h2], Nat.zero_le _, ?_⟩
      show m.toNat ≤ len
      omega
    | some n =>
      obtain ⟨k', rfl⟩ := hlo
      obtain ⟨h0, h1, h3, h4⟩ := hc
      have h0 : 0 ≤ m := h0
      have h3 : 0 ≤ n := h3
      have h1 : m ≤ (len : Int) := h1
      have h2 : m ≤ (cap : Int) := by omega
      have h4 : n ≤ m := h4
      have h5 : n ≤ ((m.toNat : Nat) : Int) := by omega
      refine ⟨by cases isSlice <;> simp [Instr.sliceBounds, loN, hiN, run_sliceBound h0 h2, run_sliceBound h3 h5], ?_, ?_⟩
      · show n.toNat ≤ m.toNat
        omega
      · show m.toNat ≤ len
        omega

/-- 'slice' (without a third index) of a string or of a shared slice. -/
def evSlice (P : Program) (T : TypeId) (v : AV) (lo hi : Option AV) : Option (List Prop × AV) :=
  match bnd lo, bnd hi with
  | some lo, some hi =>
    match P.underlying T, v with
    | some .string, .t (.c (.s (.str s))) => some (cutC lo hi s.length, .t (.c (.s (.str (cutL lo hi s)))))
    | some (.slice e), .t (.c (.s (.sl k α d row l))) =>
      if P.cellsOf e = k ∧ P.info? e ≠ none then some (cutC lo hi l.length, .t (.c (.s (.sl k α d row (cutL lo hi l))))) else none
    | some (.slice e), .t (.c (.s .nilsl)) =>
      if P.info? e ≠ none then some (cutC lo hi 0, .t (.c (.s .nilsl))) else none
    | _, _ => none
  | _, _ => none

def MVo (Γ : Ctx) (obj : Nat → Option AObj) (w : World) : Option AV → Option Value → Prop
  | none, none => True
  | some b, some v => MV Γ obj w b v
  | _, _ => False

theorem bnd_ok {Γ obj w} {b : Option AV} {o : Option Value} {r : Option Int} (h : bnd b = some r) (hv : MVo Γ obj w b o) :
    IsB r o := by
  unfold bnd at h
  split at h
  · cases h
    cases o with
    | none => rfl
    | some v => exact hv.elim
  · rename_i k n
    cases h
    cases o with
    | none => exact hv.elim
    | some v => exact ⟨k, by rw [(show v = .int k n from hv.1)]⟩
  · cases h

theorem bytes_extract (s : Bytes) (a b : Nat) : (ba s).extract a b = ba ((s.take b).drop a) := by
  apply ByteArray.ext
  simp [ba, ByteArray.data_extract, List.drop_take]

theorem slice_ok {P : Program} {Γ obj w T av a} {lo hi : Option AV} {vlo vhi : Option Value} {cs r} (h : evSlice P T av lo hi = some (cs, r)) (hv : MV Γ obj w av a)
    (hlo : MVo Γ obj w lo vlo) (hhi : MVo Γ obj w hi vhi)
    (hc : allP cs) : ∃ v, (Instr.sliceAt T a vlo vhi none).run P w = .ok v w ∧ MV Γ obj w r v := by
  unfold evSlice at h
  split at h
  · rename_i blo bhi e1 e2
    have g1 := bnd_ok e1 hlo
    have g2 := bnd_ok e2 hhi
    split at h
    · rename_i s hu
      simp only [Option.some.injEq, Prod.mk.injEq] at h
      obtain ⟨rfl, rfl⟩ := h
      obtain ⟨rfl, hs⟩ := hv
      obtain ⟨hb, h1, h2⟩ := bounds_run (P := P) (isSlice := false) (w := w) g1 g2 hc (Nat.le_refl s.length)
      refine ⟨.string (ba (cutL blo bhi s)), ?_, rfl, ?_⟩
      · rw [cutL_eq _ _ _ hc]
        simp [Instr.sliceAt, Instr.slice, run_underlying hu, size_ba, hb, bytes_extract]
      · rw [cutL_eq _ _ _ hc]; simp; omega
    · rename_i e k α d row l hu
      split at h
      · rename_i he
        obtain ⟨hk, he⟩ := he
        obtain ⟨inf, hi', hsz⟩ := info_some he
        simp only [Option.some.injEq, Prod.mk.injEq] at h
        obtain ⟨rfl, rfl⟩ := h
        obtain ⟨ad, cap, rfl, hcap, hmx, hl⟩ := hv
        obtain ⟨hb, h1, h2⟩ := bounds_run (P := P) (isSlice := true) (w := w) g1 g2 hc hcap
        refine ⟨.slice (if cap = loN blo then ad else ad.map (·.add (loN blo * k))) (hiN bhi l.length - loN blo) (cap - loN blo), ?_, ?_⟩
        · simp [Instr.sliceAt, Instr.slice, run_underlying hu, hb, run_sizeOf' hi', ← hsz, hk]
        · have hlen : (cutL blo bhi l).length = hiN bhi l.length - loN blo := by
            rw [cutL_eq _ _ _ hc, List.length_drop, List.length_take]; omega
          refine ⟨_, _, by rw [hlen], by omega, by omega, ?_⟩
          by_cases hcl : cap = loN blo
          · left
            rw [if_pos hcl]
            refine ⟨List.eq_nil_of_length_eq_zero (by omega), fun _ => by omega⟩
          · rw [if_neg hcl]
            rcases hl with ⟨rfl, hn⟩ | ⟨b, off, rfl, hI, hm⟩
            · left
              refine ⟨List.eq_nil_of_length_eq_zero (by rw [hlen]; simp at h2 ⊢; omega), fun hnn => ?_⟩
              have : ad = none := by cases ad <;> simp at hnn ⊢
              have := hn this; omega
            · right
              refine ⟨b, off + loN blo * k, by simp [add_mk], hI, fun j x hx i hi => ?_⟩
              rw [cutL_eq _ _ _ hc, List.getElem?_drop] at hx
              have hjt : loN blo + j < hiN bhi l.length := by
                rcases Nat.lt_or_ge (loN blo + j) (hiN bhi l.length) with h | h
                · exact h
                · rw [List.getElem?_take, if_neg (by omega)] at hx; cases hx
              rw [List.getElem?_take_of_lt hjt] at hx
              have := hm (loN blo + j) x hx i hi
              rw [show off + loN blo * k + j * k + i = off + (loN blo + j) * k + i by rw [Nat.add_mul]; omega]
              exact this
      · cases h
    · rename_i e hu
      split at h
      · rename_i he
        obtain ⟨inf, hi', hsz⟩ := info_some he
        simp only [Option.some.injEq, Prod.mk.injEq] at h
        obtain ⟨rfl, rfl⟩ := h
        obtain rfl : a = .slice none 0 0 := hv
        obtain ⟨hb, h1, h2⟩ := bounds_run (P := P) (isSlice := true) (w := w) g1 g2 hc (Nat.le_refl 0)
        refine ⟨.slice none 0 0, ?_, rfl⟩
        have h3 : hiN bhi 0 = 0 := by omega
        have h4 : loN blo = 0 := by omega
        simp [Instr.sliceAt, Instr.slice, run_underlying hu, hb, run_sizeOf' hi', h3, h4]
      · cases h
    · cases h
  · cases h

/-- 'len'. -/
def evLen (P : Program) (obj : Nat → Option AObj) (T : TypeId) (v : AV) : Option (List Prop × AV) :=
  match P.underlying T, v with
  | some .string, .t (.c (.s (.str s))) => some ([], .t (.c (.s (.int .i64 s.length))))
  | some (.slice _), .t (.c (.s (.sl k α d row l))) => some ([], .t (.c (.s (.int .i64 l.length))))
  | some (.slice _), .t (.c (.s .nilsl)) => some ([], .t (.c (.s (.int .i64 0))))
  | some (.slice _), .t (.c (.own id)) =>
    match obj id with
    | some (.grow _ k α d row l) => some ([], .t (.c (.s (.int .i64 l.length))))
    | _ => none
  | some (.array n _), _ => if n ≤ maxLen then some ([], .t (.c (.s (.int .i64 n)))) else none
  | _, _ => none

theorem inR_len {n : Nat} (h : n ≤ maxLen) : InR .i64 (n : Int) := by
  simp only [maxLen] at h
  simp [InR, IntKind.min, IntKind.max, IntKind.signed, IntKind.bits]; omega

theorem len_ok {P : Program} {Γ obj w T av a cs r rt} (h : evLen P obj T av = some (cs, r)) (hv : MV Γ obj w av a) (hh : HeapOk Γ obj w) :
    ∃ v, (Builtin.len_ #[T] rt #[a]).run P w = .ok v w ∧ MV Γ obj w r v := by
  unfold evLen at h
  split at h
  · rename_i s hu
    simp only [Option.some.injEq, Prod.mk.injEq] at h
    obtain ⟨rfl, rfl⟩ := h
    obtain ⟨rfl, hs⟩ := hv
    exact ⟨.int .i64 s.length, by simp [Builtin.len_, run_underlying hu, goInt, size_ba], rfl, inR_len hs⟩
  · rename_i e k α d row l hu
    simp only [Option.some.injEq, Prod.mk.injEq] at h
    obtain ⟨rfl, rfl⟩ := h
    obtain ⟨ad, cap, rfl, hcap, hmx, hl⟩ := hv
    exact ⟨.int .i64 l.length, by simp [Builtin.len_, run_underlying hu, goInt], rfl, inR_len (by omega)⟩
  · rename_i e hu
    simp only [Option.some.injEq, Prod.mk.injEq] at h
    obtain ⟨rfl, rfl⟩ := h
    obtain rfl : a = .slice none 0 0 := hv
    exact ⟨.int .i64 0, by simp [Builtin.len_, run_underlying hu, goInt], rfl, inR_len (Nat.zero_le _)⟩
  · rename_i e id hu
    split at h
    · rename_i T' k α d row l hob
      simp only [Option.some.injEq, Prod.mk.injEq] at h
      obtain ⟨rfl, rfl⟩ := h
      obtain ⟨rfl, _⟩ := hv
      rcases hh.objs id _ hob with ⟨hη, rfl⟩ | ⟨cap, cur, hη, hb, h1, h2, _, hm⟩
      · exact ⟨.int .i64 0, by simp [Builtin.len_, run_underlying hu, goInt, hη], rfl, inR_len (Nat.zero_le _)⟩
      · exact ⟨.int .i64 l.length, by simp [Builtin.len_, run_underlying hu, goInt, hη], rfl, inR_len (by omega)⟩
    · cases h
  · rename_i n e hu
    split at h
    · simp only [Option.some.injEq, Prod.mk.injEq] at h
      obtain ⟨rfl, rfl⟩ := h
      exact ⟨.int .i64 n, by simp [Builtin.len_, run_underlying hu, goInt], rfl, inR_len (by assumption)⟩
    · cases h
  · cases h

/-- 'convert' between numbers; a text to a text. -/
def evConvert (P : Program) (src dst : TypeId) (v : AV) : Option (List Prop × AV) :=
  match P.underlying src, P.underlying dst, v with
  | some _, some (.int k'), .t (.c (.s (.int k n))) =>
    if k'.min ≤ k.min ∧ k.max ≤ k'.max then some ([], .t (.c (.s (.int k' n)))) else some ((arith k' n).1, .t (.c (.s (arith k' n).2)))
  | some _, some .string, .t (.c (.s (.str s))) => some ([], .t (.c (.s (.str s))))
  | _, _, _ => none

theorem convert_ok {P : Program} {Γ obj w src dst av a cs r} (h : evConvert P src dst av = some (cs, r)) (hv : MV Γ obj w av a) (hc : allP cs) :
    ∃ v, (Go.convert src dst a).run P w = .ok v w ∧ MV Γ obj w r v := by
  unfold evConvert at h
  split at h
  · rename_i d k' k n hs hd
    obtain ⟨rfl, hn⟩ := hv
    split at h
    · rename_i hle
      simp only [Option.some.injEq, Prod.mk.injEq] at h
      obtain ⟨rfl, rfl⟩ := h
      have hr : InR k' n := ⟨by have := hn.1; omega, by have := hn.2; omega⟩
      exact ⟨.int k' n, by simp [Go.convert, run_underlying hs, run_underlying hd, Conv.intToInt, wrap_of_inR hr], rfl, hr⟩
    · simp only [Option.some.injEq, Prod.mk.injEq] at h
      obtain ⟨rfl, rfl⟩ := h
      exact ⟨.int k' (k'.wrap n), by simp [Go.convert, run_underlying hs, run_underlying hd, Conv.intToInt], arith_ok k' n hc⟩
  · rename_i d s hs hd
    simp only [Option.some.injEq, Prod.mk.injEq] at h
    obtain ⟨rfl, rfl⟩ := h
    obtain ⟨rfl, hn⟩ := hv
    exact ⟨.string (ba s), by simp [Go.convert, run_underlying hs, run_underlying hd], rfl, hn⟩
  · cases h

/-- 'unOp'. -/
def evUn (op : UnOp) (v : AV) : Option (List Prop × AV) :=
  match op, v with
  | .not, .t (.c (.s (.bool b))) => some ([], .t (.c (.s (.bool (!b)))))
  | .neg, .t (.c (.s (.int k n))) => some ((arith k (0 - n)).1, .t (.c (.s (arith k (0 - n)).2)))
  | _, _ => none

theorem un_ok {P : Program} {Γ obj w op av a cs r} (h : evUn op av = some (cs, r)) (hv : MV Γ obj w av a) (hc : allP cs) :
    ∃ v, (Op.unary op a).run P w = .ok v w ∧ MV Γ obj w r v := by
  unfold evUn at h
  split at h
  · simp only [Option.some.injEq, Prod.mk.injEq] at h
    obtain ⟨rfl, rfl⟩ := h
    obtain rfl := hv
    exact ⟨_, rfl, rfl⟩
  · rename_i k n
    simp only [Option.some.injEq, Prod.mk.injEq] at h
    obtain ⟨rfl, rfl⟩ := h
    obtain ⟨rfl, hn⟩ := hv
    exact ⟨.int k (k.wrap (0 - n)), rfl, arith_ok k _ hc⟩
  · cases h
end AL
