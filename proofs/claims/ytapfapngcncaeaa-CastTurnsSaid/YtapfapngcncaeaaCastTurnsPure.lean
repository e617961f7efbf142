import Derived.Test.YtapfapngcncaeaaCastTurnsWalk
import Derived.Laws.Bits64
namespace Go.Proofs.Ytapfapngcncaeaa.CastTurnsPure
open Go.RowKit Go.Proofs.Ytapfapngcncaeaa.PCastTurns Go.Proofs.YtapfapngcncaeaaW.PrintWords Go.Proofs.YtapfapngcncaeaaW.PrintLast Go.Proofs.YtapfapngcncaeaaW.PrintMore

theorem wraps_u64 (n : Int) (h₀ : 0 ≤ n) (h₁ : n < 2 ^ 64) : IntKind.u64.wrap n = n := by
  rw [IntKind.wrap_u64]; omega

theorem mask31 (x : Int) (h₀ : 0 ≤ x) (h₁ : x < 18446744073709551616) : bits .and .u64 x 2147483647 = x % 2147483648 := by
  have := bits_mask .u64 64 (by decide) wraps_u64 31 (by decide) x h₀ (by simpa using h₁)
  simpa using this

theorem turn_in (k : Nat) (a0 a1 : Int) (a2 : Bool) (h : a0 = 0 ∨ a0 = 1 ∨ a0 = 5) : cast_Turn.f (k + 1) a0 a1 a2 = some (a0, a1, a2) := by
  unfold cast_Turn.f cast_Turn.j0
  rcases h with rfl | rfl | rfl <;> simp

theorem turn_out (k : Nat) (a0 a1 : Int) (a2 : Bool) (h : ¬ (a0 = 0 ∨ a0 = 1 ∨ a0 = 5)) : cast_Turn.f (k + 1) a0 a1 a2 = some (a0, a1, !a2) := by
  have h0 : a0 ≠ 0 := fun e => h (.inl e)
  have h1 : a0 ≠ 1 := fun e => h (.inr (.inl e))
  have h5 : a0 ≠ 5 := fun e => h (.inr (.inr e))
  unfold cast_Turn.f cast_Turn.j0
  simp [h0, h1, h5]

theorem later (k : Nat) (a0 a1 : Int) (a2 : Bool) : ratchetlaw20_CastTurns.j0 (k + 1 + 1 + 1) false a0 a1 a2 = some true := by
  rw [ratchetlaw20_CastTurns.j0]
  by_cases h : a0 = 0 ∨ a0 = 1 ∨ a0 = 5
  · rw [turn_in _ a0 a1 a2 h]
    simp only [Bool.false_eq_true, if_false, Option.bind_some]
    rw [turn_in _ a0 a1 a2 h]
    simp only [ratchetlaw20_CastTurns.j1]
    rw [turn_in _ a0 a1 a2 h]
    rcases h with rfl | rfl | rfl <;> simp
  · rw [turn_out _ a0 a1 a2 h]
    simp only [Bool.false_eq_true, if_false, Option.bind_some]
    rw [turn_out _ a0 a1 _ h]
    have h0 : a0 ≠ 0 := fun e => h (.inl e)
    have h1 : a0 ≠ 1 := fun e => h (.inr (.inl e))
    have h5 : a0 ≠ 5 := fun e => h (.inr (.inr e))
    simp only [ratchetlaw20_CastTurns.j1]
    rw [turn_out _ a0 a1 a2 h]
    unfold cast_Eq.f
    simp [h0, h1, h5]

theorem pure_ (a0 a1 : Int) (a2 : Bool) (n : Int) (h₂ : 0 ≤ n) (h₃ : n < 18446744073709551616) :
    ratchetlaw20_CastTurns.f (0 + 1 + 1 + 1) a0 a1 a2 n = some true := by
  unfold ratchetlaw20_CastTurns.f cast_I31.f
  rw [mask31 n h₂ h₃, Int.tmod_eq_emod_of_nonneg h₂]
  unfold cast_Bits.f
  have e : (n % 2147483648) % 4294967296 = n % 2147483648 := by omega
  have e2 : (n % 2147483648 * 2) % 4294967296 = n % 2147483648 * 2 := by omega
  have e3 : (n % 2147483648 * 2) / 2 = n % 2147483648 := by omega
  simp only [Option.bind_some, show ¬ ((2 : Int) = 0) by decide, if_false, if_true, Bool.false_eq_true, e, e2, e3]
  generalize hm : n % 2147483648 = m
  have hm0 : 0 ≤ m := by omega
  have hm1 : m < 2147483648 := by omega
  clear e e2 e3 hm
  have e4 : Int.tmod (wrap32 (m * 2) / 2 % 4294967296) 2147483648 = m := by
    unfold wrap32
    rw [Int.tmod_eq_emod_of_nonneg (by omega)]
    omega
  rw [if_pos e4]
  have e5 : ((decide (wrap32 (m * 2) / 2 % 4294967296 ≥ 2147483648)) != (decide (m ≥ 1073741824))) = false := by
    rw [bne_eq_false_iff_eq, decide_eq_decide]
    unfold wrap32
    omega
  rw [e5]
  exact later 0 a0 a1 a2

theorem walk (a0 a1 : Int) (a2 : Bool) (n : Int) (w : World)
    (_ : (Lit.int .i64 a0).wf = true) (_ : (Lit.int .u64 a1).wf = true) (h2 : (Lit.int .u64 n).wf = true) :
    Calls Try.prog 5 #[.agg #[.int .i64 a0, .int .u64 a1, .bool a2], .int .u64 n] w fun e w' => e = .returned (.bool true) ∧ Below w.heap.size w w' := by
  simp [Lit.wf, IntKind.min, IntKind.max, IntKind.signed, IntKind.bits] at h2
  exact ratchetlaw20_CastTurns.calls (0 + 1 + 1 + 1) a0 a1 a2 n true w (pure_ a0 a1 a2 n h2.1 (by omega))
end Go.Proofs.Ytapfapngcncaeaa.CastTurnsPure
