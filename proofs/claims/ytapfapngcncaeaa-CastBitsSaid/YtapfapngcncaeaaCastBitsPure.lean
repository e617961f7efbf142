import Derived.Test.YtapfapngcncaeaaPCastBitsx3
import Derived.Laws.Bits64
namespace Go.Proofs.Ytapfapngcncaeaa.CastBitsPure
open Go.RowKit Go.Proofs.Ytapfapngcncaeaa.PCastBits Go.Proofs.YtapfapngcncaeaaW.PrintWords Go.Proofs.YtapfapngcncaeaaW.PrintLast Go.Proofs.YtapfapngcncaeaaW.PrintMore

theorem wraps_u64 (n : Int) (h₀ : 0 ≤ n) (h₁ : n < 2 ^ 64) : IntKind.u64.wrap n = n := by
  rw [IntKind.wrap_u64]; omega

theorem mask31 (x : Int) (h₀ : 0 ≤ x) (h₁ : x < 18446744073709551616) : bits .and .u64 x 2147483647 = x % 2147483648 := by
  have := bits_mask .u64 64 (by decide) wraps_u64 31 (by decide) x h₀ (by simpa using h₁)
  simpa using this

theorem bits_same (a0 a1 : Int) (a2 s : Bool) (h₀ : 0 ≤ a1) :
    ∃ r, cast_Bits.f a0 a1 a2 s = some r ∧ ratchetref20_Bits.f a0 a1 a2 s = some r := by
  unfold cast_Bits.f ratchetref20_Bits.f
  rw [Int.tmod_eq_emod_of_nonneg h₀]
  by_cases c : a0 = 0
  · simp [c]
  · rw [if_neg c, if_neg c]
    cases s with
    | false =>
      refine ⟨_, rfl, ?_⟩
      simp only [Bool.false_eq_true, if_false, Option.some.injEq, Prod.mk.injEq, and_true]
      omega
    | true =>
      refine ⟨_, rfl, ?_⟩
      simp only [if_true]
      split
      · simp only [Option.some.injEq, Prod.mk.injEq, and_true]
        rw [wraps_u64 _ (by omega) (by omega)]
        unfold wrap32
        omega
      · simp only [Option.some.injEq, Prod.mk.injEq, and_true]
        unfold wrap32
        omega

theorem eq_same (a0 a1 : Int) (a2 : Bool) (b0 b1 : Int) (b2 : Bool) : ∃ r, cast_Eq.f a0 a1 a2 b0 b1 b2 = some r ∧ ratchetref20_Eq.f a0 a1 a2 b0 b1 b2 = some r := by
  unfold cast_Eq.f ratchetref20_Eq.f
  by_cases c : a0 = 0 <;> by_cases d : b0 = 0 <;> simp [c, d]
  · exact fun h => d h.symm

theorem turn_same (k : Nat) (a0 a1 : Int) (a2 : Bool) : ∃ r, cast_Turn.f (k + 1) a0 a1 a2 = some r ∧ ratchetref20_Turn.f a0 a1 a2 = some r := by
  unfold cast_Turn.f ratchetref20_Turn.f cast_Turn.j0
  by_cases c : a0 = 0
  · simp [c]
  · by_cases d : a0 = 1
    · simp [d]
    · by_cases e : a0 = 5 <;> simp [c, d, e]

theorem pure_ (a0 a1 : Int) (a2 : Bool) (b0 b1 : Int) (b2 : Bool) (n : Int) (s : Bool) (h₀ : 0 ≤ a1) (h₂ : 0 ≤ n) (h₃ : n < 18446744073709551616) :
    ratchetlaw20_CastBits.f 1 a0 a1 a2 b0 b1 b2 n s = some true := by
  obtain ⟨r, e1, e2⟩ := bits_same a0 a1 a2 s h₀
  obtain ⟨q, e3, e4⟩ := eq_same a0 a1 a2 b0 b1 b2
  obtain ⟨t, e5, e6⟩ := turn_same 0 a0 a1 a2
  have e5' : cast_Turn.f 1 a0 a1 a2 = some t := e5
  unfold ratchetlaw20_CastBits.f
  rw [e1, e2, e3, e4, e5', e6]
  unfold cast_I31.f ratchetref20_I31.f ratchetlaw20_awake.f cast_I31.f
  rw [mask31 n h₂ h₃, mask31 5 (by decide) (by decide), Int.tmod_eq_emod_of_nonneg h₂]
  simp

theorem walk (a0 a1 : Int) (a2 : Bool) (b0 b1 : Int) (b2 : Bool) (n : Int) (s : Bool) (w : World)
    (_ : (Lit.int .i64 a0).wf = true) (h1 : (Lit.int .u64 a1).wf = true) (_ : (Lit.int .i64 b0).wf = true) (_ : (Lit.int .u64 b1).wf = true) (h2 : (Lit.int .u64 n).wf = true) :
    Calls Try.prog 4 #[.agg #[.int .i64 a0, .int .u64 a1, .bool a2], .agg #[.int .i64 b0, .int .u64 b1, .bool b2], .int .u64 n, .bool s] w fun e w' => e = .returned (.bool true) ∧ Below w.heap.size w w' := by
  simp [Lit.wf, IntKind.min, IntKind.max, IntKind.signed, IntKind.bits] at h1 h2
  exact ratchetlaw20_CastBits.calls 1 a0 a1 a2 b0 b1 b2 n s true w (pure_ a0 a1 a2 b0 b1 b2 n s h1.1 h2.1 (by omega))
end Go.Proofs.Ytapfapngcncaeaa.CastBitsPure
