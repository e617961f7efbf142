/- Contracts of fnum's unary operators: conversions between the widths, roots, roundings, each up to the bits of a NaN. -/
import Derived.Test.YtapfapngcncaeaaFl5
namespace Go.Proofs.Ytapfapngcncaeaa.Fl
open Go.RowKit Go.Proofs.Ytapfapngcncaeaa.Ie

/-- Is the word a NaN? -/
def Nn (k : FloatKind) (x : Nat) : Prop := k.format.infRung < rung k.format x
theorem isNum_iff (k : FloatKind) (x : Nat) : isNum k x = true ↔ ¬ Nn k x := by
  unfold isNum Nn
  rw [order_self_eq _ (by cases k <;> decide)]
  simp
theorem isNum_false (k : FloatKind) (x : Nat) : isNum k x = false ↔ Nn k x := by
  have := isNum_iff k x
  cases h : isNum k x
  · simp [h] at this; simp [this]
  · simp [h] at this; simp [this]

/-- A float of the other width. -/
def ConvRes (s k : FloatKind) (x r : Nat) : Prop :=
  floatToFloatBits s x k = some r ∨ (floatToFloatBits s x k = none ∧ (Nn s x → Nn k r) ∧ r < 2 ^ k.format.width)

theorem nan_read {k : FloatKind} {x : Nat} {s : Bool} {t : Nat} (h : k.decode x = .nan s t) : Nn k x := by
  have := read_nan k.format (by cases k <;> decide) x
  unfold FloatKind.decode at h
  rw [h] at this
  simpa [Ieee.Datum.isNaN, Nn] using this
theorem not_nan_read {k : FloatKind} {x : Nat} {d : Ieee.Datum} (h : k.decode x = d) (hd : d.isNaN = false) : ¬ Nn k x := by
  have := read_nan k.format (by cases k <;> decide) x
  unfold FloatKind.decode at h
  rw [h, hd] at this
  unfold Nn
  intro hc
  simp [hc] at this

theorem run_conv {P : Program} (src dst : TypeId) (s k : FloatKind) (hne : s ≠ k) (hk : k = .f32 ∨ s = .f32) (b : Nat) (hs : (P.underlying src).isSome = true) (hd : P.underlying dst = some (.float k)) (w : World) :
    ∃ r n, (convert src dst (.float s b)).run P w = .ok (.float k r) (w.drewN n) ∧ ConvRes s k b r := by
  cases h : floatToFloatBits s b k with
  | some r => exact ⟨r, 0, run_convert_float_float w src dst s k b r hs hd h, .inl h⟩
  | none =>
    obtain ⟨u, hs'⟩ := Option.isSome_iff_exists.1 hs
    have h' := h
    unfold floatToFloatBits at h
    rw [if_neg hne] at h
    split at h
    · rename_i sg t he
      refine ⟨(Question.nanConv k b).cut (w.tape w.drawn (.nanConv k b)), 1, ?_, .inr ⟨h', fun _ => (nan_cut k _ _ (.inr (.inl ⟨b, rfl⟩))).1, (nan_cut k _ _ (.inr (.inl ⟨b, rfl⟩))).2⟩⟩
      cases u <;> simp [convert, run_underlying hs', run_underlying hd, Conv.floatToFloat, hne, he, Question.forced] <;> rfl
    · cases h
    · rename_i sg m e he
      split at h
      · rename_i ho
        refine ⟨(Question.floatToFloat b).cut (w.tape w.drawn (.floatToFloat b)), 1, ?_, .inr ⟨h', fun hn => absurd hn (not_nan_read he rfl), ?_⟩⟩
        · cases u <;> simp [convert, run_underlying hs', run_underlying hd, Conv.floatToFloat, hne, he, ho, Question.forced] <;> rfl
        · show w.tape w.drawn _ % 2 ^ 32 < _
          rcases hk with rfl | rfl
          · exact Nat.mod_lt _ (by decide)
          · cases k
            · exact Nat.mod_lt _ (by decide)
            · exact Nat.lt_of_lt_of_le (Nat.mod_lt _ (by decide)) (by decide)
      · cases h

def sqrtSem (x : Nat) : Sem Value :=
  match FloatKind.f64.format.sqrt x with
  | some r => pure (Value.float .f64 r)
  | none => do pure (Value.float .f64 (← choose (.nanBits .f64 x x)))
theorem run_sqrt (x : Nat) (w : World) : ∃ r n, (callFunc 85 #[.float .f64 x]).run Try.prog w = .ok (.value (.float .f64 r)) (w.drewN n) ∧ Res .f64 (FloatKind.f64.format.sqrt x) r := by
  rw [run_callFunc_extern Try.func85 (by kernel_rfl) (by kernel_rfl) (by kernel_rfl) (e := Extern.MathSqrt.sqrt) (by kernel_rfl)]
  rw [show Extern.MathSqrt.sqrt #[.float .f64 x] = sqrtSem x from rfl]
  unfold sqrtSem
  cases h : FloatKind.f64.format.sqrt x with
  | some r => exact ⟨r, 0, rfl, .inl rfl⟩
  | none =>
    refine ⟨(Question.nanBits .f64 x x).cut (w.tape w.drawn (.nanBits .f64 x x)), 1, ?_, .inr ⟨rfl, nan_cut .f64 _ _ (.inl ⟨x, x, rfl⟩)⟩⟩
    simp [Question.forced, Result.andThen]
    rfl

def integSem (way : Ieee.Toward) (x : Nat) : Sem Value :=
  match FloatKind.f64.decode x with
  | .nan s t =>
    if FloatKind.f64.format.quiet t = t then pure (Value.float .f64 x) else do
    let kept ← choose (.extern "math.Floor,Ceil,Trunc,RoundToEven.signallingNaN kept" 2)
    pure (Value.float .f64 (if kept == 1 then x else FloatKind.f64.encode (.nan s (FloatKind.f64.format.quiet t))))
  | d => pure (Value.float .f64 (FloatKind.f64.encode (d.integral way)))

/-- A float made whole. -/
def RoundRes (way : Ieee.Toward) (x r : Nat) : Prop :=
  (Nn .f64 x ∧ Nn .f64 r ∧ r < 18446744073709551616) ∨ (¬ Nn .f64 x ∧ r = FloatKind.f64.encode ((FloatKind.f64.decode x).integral way))

theorem quiet_nan (s : Bool) (t : Nat) (ht : t < 4503599627370496) : Nn .f64 (FloatKind.f64.encode (.nan s (FloatKind.f64.format.quiet t))) := by
  have e : FloatKind.f64.format.quiet t = t ||| 2 ^ 51 := rfl
  have h2 : t ||| 2 ^ 51 < 2 ^ 52 := Nat.or_lt_two_pow (by omega) (by decide)
  have h3 : 2 ^ 51 ≤ t ||| 2 ^ 51 := Nat.right_le_or
  unfold Nn
  show _ < rung _ (FloatKind.f64.format.word s (FloatKind.f64.format.infRung + FloatKind.f64.format.quiet t % FloatKind.f64.format.binade))
  rw [e, show FloatKind.f64.format.binade = 2 ^ 52 by decide, Nat.mod_eq_of_lt h2]
  rw [word_rung]
  · omega
  · rw [show FloatKind.f64.format.infRung = 9218868437227405312 by decide, show FloatKind.f64.format.signWeight = 9223372036854775808 by decide]
    omega

theorem run_integral (way : Ieee.Toward) (name : String) (x : Nat) (hx : x < 18446744073709551616) (w : World) :
    ∃ r n, (Extern.MathFloor.toIntegral name way #[.float .f64 x]).run Try.prog w = .ok (.float .f64 r) (w.drewN n) ∧ RoundRes way x r := by
  cases h : FloatKind.f64.decode x with
  | number s m e =>
    refine ⟨FloatKind.f64.encode ((Ieee.Datum.number s m e).integral way), 0, ?_, .inr ⟨not_nan_read h rfl, by rw [h]⟩⟩
    rw [show Extern.MathFloor.toIntegral name way #[.float .f64 x] = integSem way x from rfl]
    unfold integSem
    rw [h]; rfl
  | infinity s =>
    refine ⟨FloatKind.f64.encode ((Ieee.Datum.infinity s).integral way), 0, ?_, .inr ⟨not_nan_read h rfl, by rw [h]⟩⟩
    rw [show Extern.MathFloor.toIntegral name way #[.float .f64 x] = integSem way x from rfl]
    unfold integSem
    rw [h]; rfl
  | nan s t =>
    have hn := nan_read h
    have ht : t < 4503599627370496 := by
      have hr : rung FloatKind.f64.format x < 9223372036854775808 := by
        unfold rung; rw [show FloatKind.f64.format.signWeight = 9223372036854775808 by decide]; omega
      unfold FloatKind.decode at h
      rw [read_eq] at h
      unfold unword at h
      rw [show FloatKind.f64.format.infRung = 9218868437227405312 by decide] at h
      split at h
      · cases h
      · split at h
        · cases h
        · split at h
          · cases h
          · cases h; omega
    by_cases hq : FloatKind.f64.format.quiet t = t
    · refine ⟨x, 0, ?_, .inl ⟨hn, hn, hx⟩⟩
      rw [show Extern.MathFloor.toIntegral name way #[.float .f64 x] = integSem way x from rfl]
      unfold integSem
      rw [h]; simp only [hq, if_true]; rfl
    · refine ⟨if (Question.extern "math.Floor,Ceil,Trunc,RoundToEven.signallingNaN kept" 2).cut (w.tape w.drawn (.extern "math.Floor,Ceil,Trunc,RoundToEven.signallingNaN kept" 2)) == 1 then x else FloatKind.f64.encode (.nan s (FloatKind.f64.format.quiet t)), 1, ?_, .inl ⟨hn, ?_, ?_⟩⟩
      · rw [show Extern.MathFloor.toIntegral name way #[.float .f64 x] = integSem way x from rfl]
        unfold integSem
        rw [h]; simp only [hq, if_false]
        simp [Question.forced]
        rfl
      · split
        · exact hn
        · exact quiet_nan s t ht
      · split
        · exact hx
        · exact FloatKind.f64.format.write_lt _
end Go.Proofs.Ytapfapngcncaeaa.Fl
