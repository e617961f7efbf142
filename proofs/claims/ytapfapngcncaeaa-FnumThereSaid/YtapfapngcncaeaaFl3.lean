/- Contracts of fnum's Nan, Canon, table. -/
import Derived.Test.YtapfapngcncaeaaFl2
import Derived.OwnWalk
import Derived.Laws.ResultCell
import Derived.Deep.QuietTactic
import Derived.BigQuiet
namespace Go.Proofs.Ytapfapngcncaeaa.Fl
open Go.RowKit Go.Proofs.Ytapfapngcncaeaa.Ie

set_option maxRecDepth 100000 in
theorem nan_32 (a : Int) (w : World) :
    Calls Try.prog 14 #[.int .i64 32, .int .u64 a] w fun e w' => e = .returned (.tuple #[.bool (FloatKind.f32.format.order (a % 4294967296).toNat (a % 4294967296).toNat != some .eq), .bool (bits .and .u64 a 2147483647 == 2143289344), .int .i64 0]) ∧ w' = w := by
  go_enter Try.func14, Try.ntmps14
  go_wp2_with (go_at_call 36; refine (single_calls _ _).mono ?_; rintro e w' ⟨rfl, rfl⟩)
  go_ret3
  exact ⟨rfl, rfl⟩
set_option maxRecDepth 100000 in
theorem nan_64 (a : Int) (w : World) :
    Calls Try.prog 14 #[.int .i64 64, .int .u64 a] w fun e w' => e = .returned (.tuple #[.bool (FloatKind.f64.format.order a.toNat a.toNat != some .eq), .bool (bits .and .u64 a 9223372036854775807 == 9221120237041090560), .int .i64 0]) ∧ w' = w := by
  go_enter Try.func14, Try.ntmps14
  go_wp2_with (go_at_call 37; refine (double_calls _ _).mono ?_; rintro e w' ⟨rfl, rfl⟩)
  go_ret3
  exact ⟨rfl, rfl⟩
set_option maxRecDepth 100000 in
theorem nan_no (n a : Int) (w : World) (h1 : (n == 32) = false) (h2 : (n == 64) = false) :
    Calls Try.prog 14 #[.int .i64 n, .int .u64 a] w fun e w' => e = .returned (.tuple #[.bool false, .bool false, .int .i64 1]) ∧ w' = w := by
  go_enter Try.func14, Try.ntmps14
  go_wp2
  go_ret3
  exact ⟨rfl, rfl⟩
set_option maxRecDepth 100000 in
theorem canon_32 (w : World) :
    Calls Try.prog 16 #[.int .i64 32] w fun e w' => e = .returned (.tuple #[.int .u64 2143289344, .int .i64 0]) ∧ w' = w := by
  go_enter Try.func16, Try.ntmps16
  go_wp2
  go_ret2
  exact ⟨rfl, rfl⟩
set_option maxRecDepth 100000 in
theorem canon_64 (w : World) :
    Calls Try.prog 16 #[.int .i64 64] w fun e w' => e = .returned (.tuple #[.int .u64 9221120237041090560, .int .i64 0]) ∧ w' = w := by
  go_enter Try.func16, Try.ntmps16
  go_wp2
  go_ret2
  exact ⟨rfl, rfl⟩
set_option maxRecDepth 100000 in
theorem canon_no (n : Int) (w : World) (h1 : (n == 32) = false) (h2 : (n == 64) = false) :
    Calls Try.prog 16 #[.int .i64 n] w fun e w' => e = .returned (.tuple #[.int .u64 0, .int .i64 1]) ∧ w' = w := by
  go_enter Try.func16, Try.ntmps16
  go_wp2
  go_ret2
  exact ⟨rfl, rfl⟩

set_option maxRecDepth 100000 in
theorem table_calls (w : World) :
    Calls Try.prog 44 #[] w fun e w' => e = .returned (.agg #[.int .i64 139, .int .i64 146, .int .i64 91, .int .i64 153, .int .i64 160, .int .i64 97]) ∧ Below w.heap.size w w' := by
  go_enter Try.func44, Try.ntmps44
  go_wp2
  refine bodyPost_ret (v := .agg #[.int .i64 139, .int .i64 146, .int .i64 91, .int .i64 153, .int .i64 160, .int .i64 97]) (by simp [results, Try.results44, go_sem]) rfl ⟨rfl, ?_⟩
  exact (Below.refl _ _).alloc (Nat.le_refl _) _
end Go.Proofs.Ytapfapngcncaeaa.Fl
