/- Plain facts on the reference's small functions, read off their printed forms: used by claims over the seat's texts. -/
import Derived.Test.YtapfapngcncaeaaIe
import Derived.Laws.Bits64
import Derived.Laws.BitsAllLaws
namespace Go.Proofs.Ytapfapngcncaeaa.Rf
open Go.Proofs.Ytapfapngcncaeaa.Ie

theorem and_mask (j : Nat) (hj : j ≤ 64) (x : Int) (h₀ : 0 ≤ x) (h₁ : x < 18446744073709551616) : bits .and .u64 x (2 ^ j - 1) = x % 2 ^ j :=
  bits_mask .u64 64 (by decide) (fun n h₀ h₁ => by rw [IntKind.wrap_u64]; omega) j hj x h₀ (by simpa using h₁)
theorem and31 (x : Int) (h₀ : 0 ≤ x) (h₁ : x < 18446744073709551616) : bits .and .u64 x 2147483647 = x % 2147483648 := and_mask 31 (by decide) x h₀ h₁
theorem and32 (x : Int) (h₀ : 0 ≤ x) (h₁ : x < 18446744073709551616) : bits .and .u64 x 4294967295 = x % 4294967296 := and_mask 32 (by decide) x h₀ h₁
theorem and63 (x : Int) (h₀ : 0 ≤ x) (h₁ : x < 18446744073709551616) : bits .and .u64 x 9223372036854775807 = x % 9223372036854775808 := and_mask 63 (by decide) x h₀ h₁
end Go.Proofs.Ytapfapngcncaeaa.Rf
