/- math.Ldexp(1, 31) and (1, 32), step by step. -/
import Derived.Test.YtapfapngcncaeaaFl8
namespace Go.Proofs.Ytapfapngcncaeaa.Fl
open Go.RowKit Go.Proofs.Ytapfapngcncaeaa.Ie
attribute [local go_sem] ext65 ext71

set_option maxRecDepth 100000 in
theorem abs_one (w : World) : Calls Try.prog 110 #[.float .f64 4607182418800017408] w fun e w' => e = .returned (.float .f64 4607182418800017408) ∧ w' = w := by
  have h : bits .andNot .u64 4607182418800017408 9223372036854775808 = 4607182418800017408 := by decide
  go_enter Try.func110, Try.ntmps110
  go_wp2
  go_ret
  exact ⟨by simp, rfl⟩
set_option maxRecDepth 100000 in
theorem nan_one (w : World) : Calls Try.prog 114 #[.float .f64 4607182418800017408] w fun e w' => e = .returned (.bool false) ∧ w' = w := by
  have h : (FloatKind.f64.format.order 4607182418800017408 4607182418800017408 != some .eq) = false := by decide
  go_enter Try.func114, Try.ntmps114
  go_wp2
  go_ret
  exact ⟨by simp, rfl⟩
set_option maxRecDepth 100000 in
theorem inf_one (w : World) : Calls Try.prog 115 #[.float .f64 4607182418800017408, .int .i64 0] w fun e w' => e = .returned (.bool false) ∧ w' = w := by
  have h1 : (FloatKind.f64.format.order 4607182418800017408 9218868437227405311 == some .gt) = false := by decide
  have h2 : (FloatKind.f64.format.order 4607182418800017408 18442240474082181119 == some .lt) = false := by decide
  go_enter Try.func115, Try.ntmps115
  go_wp2
  go_ret
  exact ⟨by simp; decide, rfl⟩
set_option maxRecDepth 100000 in
theorem norm_one (w : World) : Calls Try.prog 117 #[.float .f64 4607182418800017408] w fun e w' => e = .returned (.tuple #[.float .f64 4607182418800017408, .int .i64 0]) ∧ w' = w := by
  have h1 : (FloatKind.f64.format.order 4607182418800017408 4503599627370496 == some .lt) = false := by decide
  go_enter Try.func117, Try.ntmps117
  go_wp2_with (go_at_call 110; refine (abs_one _).mono ?_; rintro e w' ⟨rfl, rfl⟩)
  go_ret2
  exact ⟨rfl, rfl⟩
set_option maxRecDepth 100000 in
theorem ldexp_31 (w : World) : Calls Try.prog 113 #[.float .f64 4607182418800017408, .int .i64 31] w fun e w' => e = .returned (.float .f64 4746794007248502784) ∧ w' = w := by
  have hE : wrap64 (31 + wrap64 (bits .and .i64 1023 2047 - 1023)) = 31 := by kernel_rfl
  have hB : bits .or .u64 (bits .andNot .u64 4607182418800017408 9218868437227405312) 4746794007248502784 = 4746794007248502784 := by decide
  have hM : ∀ w : World, (binOp .mul 53 (.float .f64 4607182418800017408) (.float .f64 4746794007248502784)).run Try.prog w = .ok (.float .f64 4746794007248502784) w := fun w => run_float_arith w .mul 53 .f64 _ _ _ (by decide)
  go_enter Try.func113, Try.ntmps113
  go_wp2_with (first | (go_at_call 115; refine (inf_one _).mono ?_; rintro e w' ⟨rfl, rfl⟩) | (go_at_call 114; refine (nan_one _).mono ?_; rintro e w' ⟨rfl, rfl⟩) | (go_at_call 117; refine (norm_one _).mono ?_; rintro e w' ⟨rfl, rfl⟩))
  go_ret
  exact ⟨rfl, rfl⟩
set_option maxRecDepth 100000 in
theorem Ldexp_31 (w : World) : Calls Try.prog 96 #[.float .f64 4607182418800017408, .int .i64 31] w fun e w' => e = .returned (.float .f64 4746794007248502784) ∧ w' = w := by
  go_enter Try.func96, Try.ntmps96
  go_wp2_with (go_at_call 113; refine (ldexp_31 _).mono ?_; rintro e w' ⟨rfl, rfl⟩)
  go_ret
  exact ⟨rfl, rfl⟩
set_option maxRecDepth 100000 in
theorem ldexp_32 (w : World) : Calls Try.prog 113 #[.float .f64 4607182418800017408, .int .i64 32] w fun e w' => e = .returned (.float .f64 4751297606875873280) ∧ w' = w := by
  have hE : wrap64 (32 + wrap64 (bits .and .i64 1023 2047 - 1023)) = 32 := by kernel_rfl
  have hB : bits .or .u64 (bits .andNot .u64 4607182418800017408 9218868437227405312) 4751297606875873280 = 4751297606875873280 := by decide
  have hM : ∀ w : World, (binOp .mul 53 (.float .f64 4607182418800017408) (.float .f64 4751297606875873280)).run Try.prog w = .ok (.float .f64 4751297606875873280) w := fun w => run_float_arith w .mul 53 .f64 _ _ _ (by decide)
  go_enter Try.func113, Try.ntmps113
  go_wp2_with (first | (go_at_call 115; refine (inf_one _).mono ?_; rintro e w' ⟨rfl, rfl⟩) | (go_at_call 114; refine (nan_one _).mono ?_; rintro e w' ⟨rfl, rfl⟩) | (go_at_call 117; refine (norm_one _).mono ?_; rintro e w' ⟨rfl, rfl⟩))
  go_ret
  exact ⟨rfl, rfl⟩
set_option maxRecDepth 100000 in
theorem Ldexp_32 (w : World) : Calls Try.prog 96 #[.float .f64 4607182418800017408, .int .i64 32] w fun e w' => e = .returned (.float .f64 4751297606875873280) ∧ w' = w := by
  go_enter Try.func96, Try.ntmps96
  go_wp2_with (go_at_call 113; refine (ldexp_32 _).mono ?_; rintro e w' ⟨rfl, rfl⟩)
  go_ret
  exact ⟨rfl, rfl⟩
end Go.Proofs.Ytapfapngcncaeaa.Fl
