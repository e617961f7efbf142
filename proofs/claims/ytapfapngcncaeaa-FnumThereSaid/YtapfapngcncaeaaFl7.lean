/- Contracts of math's roots and roundings as fnum calls them, of fnum.rounded and of fnum.Unary. -/
import Derived.Test.YtapfapngcncaeaaFl6
namespace Go.Proofs.Ytapfapngcncaeaa.Fl
open Go.RowKit Go.Proofs.Ytapfapngcncaeaa.Ie

def SqrtPost (x : Nat) (w : World) (e : Ending) (w' : World) : Prop := ∃ r c, e = .returned (.float .f64 r) ∧ Res .f64 (FloatKind.f64.format.sqrt x) r ∧ w' = w.drewN c
def RoundPost (way : Ieee.Toward) (x : Nat) (w : World) (e : Ending) (w' : World) : Prop := ∃ r c, e = .returned (.float .f64 r) ∧ RoundRes way x r ∧ w' = w.drewN c

set_option maxRecDepth 100000 in
theorem sqrt_calls (x : Nat) (w : World) : Calls Try.prog 61 #[.float .f64 x] w (SqrtPost x w) := by
  obtain ⟨r, c, hr, hR⟩ := run_sqrt x w
  have HR := Lib.hid hR
  clear hR
  go_enter Try.func61, Try.ntmps61
  go_wp2
  go_ret
  exact ⟨r, c, rfl, HR.out, rfl⟩


theorem run_ceil (x : Nat) (hx : x < 18446744073709551616) (w : World) : ∃ r n, (callFunc 102 #[.float .f64 x]).run Try.prog w = .ok (.value (.float .f64 r)) (w.drewN n) ∧ RoundRes .up x r := by
  obtain ⟨r, n, h, hR⟩ := run_integral .up "math.archCeil" x hx w
  refine ⟨r, n, ?_, hR⟩
  rw [run_callFunc_extern Try.func102 (by kernel_rfl) (by kernel_rfl) (by kernel_rfl) (e := Extern.MathFloor.toIntegral "math.archCeil" .up) (by kernel_rfl), h]
  rfl
set_option maxRecDepth 100000 in
theorem ceil_calls (x : Nat) (hx : x < 18446744073709551616) (w : World) : Calls Try.prog 86 #[.float .f64 x] w (RoundPost .up x w) := by
  obtain ⟨r, c, hr, hR⟩ := run_ceil x hx w
  have HR := Lib.hid hR
  clear hR
  go_enter Try.func86, Try.ntmps86
  go_wp2
  go_ret
  exact ⟨r, c, rfl, HR.out, rfl⟩


theorem run_floor (x : Nat) (hx : x < 18446744073709551616) (w : World) : ∃ r n, (callFunc 104 #[.float .f64 x]).run Try.prog w = .ok (.value (.float .f64 r)) (w.drewN n) ∧ RoundRes .down x r := by
  obtain ⟨r, n, h, hR⟩ := run_integral .down "math.archFloor" x hx w
  refine ⟨r, n, ?_, hR⟩
  rw [run_callFunc_extern Try.func104 (by kernel_rfl) (by kernel_rfl) (by kernel_rfl) (e := Extern.MathFloor.toIntegral "math.archFloor" .down) (by kernel_rfl), h]
  rfl
set_option maxRecDepth 100000 in
theorem floor_calls (x : Nat) (hx : x < 18446744073709551616) (w : World) : Calls Try.prog 87 #[.float .f64 x] w (RoundPost .down x w) := by
  obtain ⟨r, c, hr, hR⟩ := run_floor x hx w
  have HR := Lib.hid hR
  clear hR
  go_enter Try.func87, Try.ntmps87
  go_wp2
  go_ret
  exact ⟨r, c, rfl, HR.out, rfl⟩


theorem run_trunc (x : Nat) (hx : x < 18446744073709551616) (w : World) : ∃ r n, (callFunc 94 #[.float .f64 x]).run Try.prog w = .ok (.value (.float .f64 r)) (w.drewN n) ∧ RoundRes .zero x r := by
  obtain ⟨r, n, h, hR⟩ := run_integral .zero "math.archTrunc" x hx w
  refine ⟨r, n, ?_, hR⟩
  rw [run_callFunc_extern Try.func94 (by kernel_rfl) (by kernel_rfl) (by kernel_rfl) (e := Extern.MathFloor.toIntegral "math.archTrunc" .zero) (by kernel_rfl), h]
  rfl
set_option maxRecDepth 100000 in
theorem trunc_calls (x : Nat) (hx : x < 18446744073709551616) (w : World) : Calls Try.prog 76 #[.float .f64 x] w (RoundPost .zero x w) := by
  obtain ⟨r, c, hr, hR⟩ := run_trunc x hx w
  have HR := Lib.hid hR
  clear hR
  go_enter Try.func76, Try.ntmps76
  go_wp2
  go_ret
  exact ⟨r, c, rfl, HR.out, rfl⟩


theorem run_even (x : Nat) (hx : x < 18446744073709551616) (w : World) : ∃ r n, (callFunc 88 #[.float .f64 x]).run Try.prog w = .ok (.value (.float .f64 r)) (w.drewN n) ∧ RoundRes .even x r := by
  obtain ⟨r, n, h, hR⟩ := run_integral .even "math.RoundToEven" x hx w
  refine ⟨r, n, ?_, hR⟩
  rw [run_callFunc_extern Try.func88 (by kernel_rfl) (by kernel_rfl) (by kernel_rfl) (e := Extern.MathFloor.toIntegral "math.RoundToEven" .even) (by kernel_rfl), h]
  rfl

def way (k : Int) : Ieee.Toward := if k = 2 then .up else if k = 3 then .down else if k = 4 then .zero else .even
set_option maxRecDepth 100000 in
theorem rounded_calls (k : Int) (h2 : 2 ≤ k) (h5 : k ≤ 5) (x : Nat) (hx : x < 18446744073709551616) (w : World) : Calls Try.prog 62 #[.int .i64 k, .float .f64 x] w (RoundPost (way k) x w) := by
  have hk : k = 2 ∨ k = 3 ∨ k = 4 ∨ k = 5 := by omega
  rcases hk with rfl | rfl | rfl | rfl
  · go_enter Try.func62, Try.ntmps62
    go_wp2_with (go_at_call 86; refine (ceil_calls _ hx _).mono ?_; rintro e w' ⟨r, c, rfl, hR, rfl⟩; have HR := Lib.hid hR; clear hR)
    go_ret
    exact ⟨r, c, rfl, HR.out, rfl⟩
  · go_enter Try.func62, Try.ntmps62
    go_wp2_with (go_at_call 87; refine (floor_calls _ hx _).mono ?_; rintro e w' ⟨r, c, rfl, hR, rfl⟩; have HR := Lib.hid hR; clear hR)
    go_ret
    exact ⟨r, c, rfl, HR.out, rfl⟩
  · go_enter Try.func62, Try.ntmps62
    go_wp2_with (go_at_call 76; refine (trunc_calls _ hx _).mono ?_; rintro e w' ⟨r, c, rfl, hR, rfl⟩; have HR := Lib.hid hR; clear hR)
    go_ret
    exact ⟨r, c, rfl, HR.out, rfl⟩
  · obtain ⟨r, c, hr, hR⟩ := run_even x hx w
    have HR := Lib.hid hR
    clear hR
    go_enter Try.func62, Try.ntmps62
    go_wp2
    go_ret
    exact ⟨r, c, rfl, HR.out, rfl⟩
end Go.Proofs.Ytapfapngcncaeaa.Fl
