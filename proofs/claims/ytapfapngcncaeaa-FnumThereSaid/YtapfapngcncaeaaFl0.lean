import Derived.Test.YtapfapngcncaeaaProg
import Derived.WalkKit
import Derived.WalkLawsBesides
import Derived.WalkSpells
import Derived.KernelRfl
import Derived.Below
import Derived.Laws.FloatArith
import Derived.Laws.Externs
import Derived.Laws.Bits64
import Derived.Outline
namespace Go.Proofs.Ytapfapngcncaeaa.Fl
open Go.RowKit

theorem ext64 (a : Int) (w : World) : (callFunc 64 #[.int .u32 a]).run Try.prog w = .ok (.value (.float .f32 a.toNat)) w := by
  rw [run_callFunc_extern Try.func64 (by kernel_rfl) (by kernel_rfl) (by kernel_rfl) (e := Extern.MathFloatBits.float32frombits) (by kernel_rfl)]
  rfl
theorem ext65 (a : Int) (w : World) : (callFunc 65 #[.int .u64 a]).run Try.prog w = .ok (.value (.float .f64 a.toNat)) w := by
  rw [run_callFunc_extern Try.func65 (by kernel_rfl) (by kernel_rfl) (by kernel_rfl) (e := Extern.MathFloatBits.float64frombits) (by kernel_rfl)]
  rfl
theorem ext70 (a : Nat) (w : World) : (callFunc 70 #[.float .f32 a]).run Try.prog w = .ok (.value (.int .u32 a)) w := by
  rw [run_callFunc_extern Try.func70 (by kernel_rfl) (by kernel_rfl) (by kernel_rfl) (e := Extern.MathFloatBits.float32bits) (by kernel_rfl)]
  rfl
theorem ext71 (a : Nat) (w : World) : (callFunc 71 #[.float .f64 a]).run Try.prog w = .ok (.value (.int .u64 a)) w := by
  rw [run_callFunc_extern Try.func71 (by kernel_rfl) (by kernel_rfl) (by kernel_rfl) (e := Extern.MathFloatBits.float64bits) (by kernel_rfl)]
  rfl
attribute [local go_sem] ext64 ext65 ext70 ext71

set_option maxRecDepth 100000 in
theorem single_calls (a : Int) (w : World) :
    Calls Try.prog 36 #[.int .u64 a] w fun e w' => e = .returned (.float .f32 (a % 4294967296).toNat) ∧ w' = w := by
  go_enter Try.func36, Try.ntmps36
  go_wp2
  go_ret
  exact ⟨rfl, rfl⟩

set_option maxRecDepth 100000 in
theorem double_calls (a : Int) (w : World) :
    Calls Try.prog 37 #[.int .u64 a] w fun e w' => e = .returned (.float .f64 a.toNat) ∧ w' = w := by
  go_enter Try.func37, Try.ntmps37
  go_wp2
  go_ret
  exact ⟨rfl, rfl⟩

end Go.Proofs.Ytapfapngcncaeaa.Fl
