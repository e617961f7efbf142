/- The contract of fnum.Convert where whole numbers go there and back. -/
import Derived.Test.YtapfapngcncaeaaFl9
namespace Go.Proofs.Ytapfapngcncaeaa.Fl
open Go.RowKit Go.Proofs.Ytapfapngcncaeaa.Ie
set_option linter.unusedSimpArgs false

theorem lt_of_ord {x y : Nat} {o : Ordering} (h : FloatKind.f64.format.order x y = some o) (c : Ordering) : (FloatKind.f64.format.order x y == some c) = (o == c) := by rw [h]; rfl

set_option maxRecDepth 100000 in
theorem from_calls (k a : Int) (hk : 2 ≤ k) (w : World) : Calls Try.prog 77 #[.int .i64 k, .int .u64 a] w fun e w' => e = .returned (.float .f64 a.toNat) ∧ w' = w := by
  go_enter Try.func77, Try.ntmps77
  go_wp2_with (go_at_call 37; refine (double_calls _ _).mono ?_; rintro e w' ⟨rfl, rfl⟩)
  go_ret
  exact ⟨rfl, rfl⟩
set_option maxRecDepth 100000 in
theorem ends_s (w : World) : Calls Try.prog 78 #[.bool true, .int .i64 32] w fun e w' => e = .returned (.tuple #[.float .f64 13970166044103278592, .float .f64 4746794007248502784]) ∧ w' = w := by
  have hN : ∀ w, (Op.unary .neg (.float .f64 4746794007248502784)).run Try.prog w = .ok (.float .f64 13970166044103278592) w := fun w => by kernel_rfl
  go_enter Try.func78, Try.ntmps78
  go_wp2_with (go_at_call 96; refine (Ldexp_31 _).mono ?_; rintro e w' ⟨rfl, rfl⟩)
  go_ret2
  exact ⟨rfl, rfl⟩
set_option maxRecDepth 100000 in
theorem ends_u (w : World) : Calls Try.prog 78 #[.bool false, .int .i64 32] w fun e w' => e = .returned (.tuple #[.float .f64 0, .float .f64 4751297606875873280]) ∧ w' = w := by
  go_enter Try.func78, Try.ntmps78
  go_wp2_with (go_at_call 96; refine (Ldexp_32 _).mono ?_; rintro e w' ⟨rfl, rfl⟩)
  go_ret2
  exact ⟨rfl, rfl⟩
set_option maxRecDepth 100000 in
theorem whole_s (f : Nat) (n : Int) (h : floatToIntVal .f64 f .i64 = some n) (w : World) : Calls Try.prog 79 #[.float .f64 f, .bool true, .int .i64 32] w fun e w' => e = .returned (.int .u64 (n % 4294967296)) ∧ w' = w := by
  have hc : ∀ w, (convert 53 2 (.float .f64 f)).run Try.prog w = .ok (.int .i64 n) w := fun w => run_convert_float_int w 53 2 .f64 .i64 f n (by rw [Try.underlying53]; rfl) Try.underlying2 h
  clear h
  go_enter Try.func79, Try.ntmps79
  go_wp2
  go_ret
  exact ⟨by simp [IntKind.wrap_u64] <;> omega, rfl⟩
set_option maxRecDepth 100000 in
theorem whole_u (f : Nat) (n : Int) (h : floatToIntVal .f64 f .u64 = some n) (w : World) : Calls Try.prog 79 #[.float .f64 f, .bool false, .int .i64 32] w fun e w' => e = .returned (.int .u64 (n % 4294967296)) ∧ w' = w := by
  have hc : ∀ w, (convert 53 22 (.float .f64 f)).run Try.prog w = .ok (.int .u64 n) w := fun w => run_convert_float_int w 53 22 .f64 .u64 f n (by rw [Try.underlying53]; rfl) Try.underlying22 h
  clear h
  go_enter Try.func79, Try.ntmps79
  go_wp2
  go_ret
  exact ⟨by simp [IntKind.wrap_u64] <;> omega, rfl⟩
end Go.Proofs.Ytapfapngcncaeaa.Fl
