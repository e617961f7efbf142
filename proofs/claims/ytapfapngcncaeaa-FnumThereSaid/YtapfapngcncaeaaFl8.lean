/- The contract of fnum.Unary. -/
import Derived.Test.YtapfapngcncaeaaFl7
namespace Go.Proofs.Ytapfapngcncaeaa.Fl
open Go.RowKit Go.Proofs.Ytapfapngcncaeaa.Ie

theorem conv_up (x : Nat) : ∃ D C : World → Nat, (∀ w : World, (convert 51 53 (.float .f32 x)).run Try.prog w = .ok (.float .f64 (D w)) (w.drewN (C w))) ∧ ∀ w, ConvRes .f32 .f64 x (D w) := by
  have h := fun w => run_conv (P := Try.prog) 51 53 .f32 .f64 (by decide) (.inr rfl) x (by kernel_rfl) Try.underlying53 w
  exact ⟨fun w => (h w).choose, fun w => (h w).choose_spec.choose, fun w => (h w).choose_spec.choose_spec.1, fun w => (h w).choose_spec.choose_spec.2⟩
theorem conv_down (x : Nat) : ∃ D C : World → Nat, (∀ w : World, (convert 53 51 (.float .f64 x)).run Try.prog w = .ok (.float .f32 (D w)) (w.drewN (C w))) ∧ ∀ w, ConvRes .f64 .f32 x (D w) := by
  have h := fun w => run_conv (P := Try.prog) 53 51 .f64 .f32 (by decide) (.inl rfl) x (by kernel_rfl) Try.underlying51 w
  exact ⟨fun w => (h w).choose, fun w => (h w).choose_spec.choose, fun w => (h w).choose_spec.choose_spec.1, fun w => (h w).choose_spec.choose_spec.2⟩

theorem conv_lt {s k : FloatKind} (hne : s ≠ k) {x r : Nat} (h : ConvRes s k x r) : r < 2 ^ k.format.width := by
  rcases h with h | ⟨_, _, h⟩
  · unfold floatToFloatBits at h
    rw [if_neg hne] at h
    split at h
    · cases h
    · cases h; exact k.format.write_lt _
    · split at h
      · cases h
      · cases h; exact k.format.write_lt _
  · exact h
theorem round_lt {way : Ieee.Toward} {x r : Nat} (h : RoundRes way x r) : r < 18446744073709551616 := by
  rcases h with ⟨_, _, h⟩ | ⟨_, rfl⟩
  · exact h
  · exact FloatKind.f64.format.write_lt _

/-- A word, or the one NaN. -/
def outB (k : FloatKind) (r : Nat) : Int := if isNum k r = true then (r : Int) else (match k with | .f32 => 2143289344 | .f64 => 9221120237041090560)

def Un32 (k : Int) (x : Nat) (v : Int) : Prop :=
  ∃ d1 d2 r : Nat, ConvRes .f32 .f64 x d1 ∧ (if k = 6 then Res .f64 (FloatKind.f64.format.sqrt d1) d2 else RoundRes (way k) d1 d2) ∧ ConvRes .f64 .f32 d2 r ∧ v = outB .f32 r
def Un64 (k : Int) (x : Nat) (v : Int) : Prop :=
  ∃ r : Nat, (if k = 6 then Res .f64 (FloatKind.f64.format.sqrt x) r else RoundRes (way k) x r) ∧ v = outB .f64 r
def UnPost (U : Int → Prop) (w : World) (e : Ending) (w' : World) : Prop := ∃ v, e = .returned (.tuple #[.int .u64 v, .int .i64 0]) ∧ U v ∧ Below w.heap.size w w'

theorem bits32_any (x : Nat) (hx : x < 4294967296) (w : World) : Calls Try.prog 49 #[.float .f32 x] w fun e w' => e = .returned (.int .u64 (outB .f32 x)) ∧ w' = w := by
  unfold outB
  cases h : isNum .f32 x
  · exact bitsf32_nan x w h
  · exact bitsf32_num x hx w h
theorem bits64_any (x : Nat) (w : World) : Calls Try.prog 51 #[.float .f64 x] w fun e w' => e = .returned (.int .u64 (outB .f64 x)) ∧ w' = w := by
  unfold outB
  cases h : isNum .f64 x
  · exact bitsf64_nan x w h
  · exact bitsf64_num x w h
theorem res_lt {x r : Nat} (h : Res .f64 (FloatKind.f64.format.sqrt x) r) : r < 18446744073709551616 := by
  rcases h with h | ⟨_, _, h⟩
  · exact Ieee.Format.sqrt_lt _ h
  · exact h

set_option maxRecDepth 100000 in
theorem unary_32 (op a : Int) (h0 : 141 ≤ op) (h1 : op < 145) (w : World) : Calls Try.prog 34 #[.int .i64 op, .int .u64 a] w (UnPost (Un32 (op - 139) (a % 4294967296).toNat) w) := by
  obtain ⟨D, C, hD, hR⟩ := conv_up (a % 4294967296).toNat
  have HR := Lib.hid hR
  clear hR
  have c6 : (op - 139 == 6) = false := by simp; omega
  have C6 : Hid (op - 139 ≠ 6) := Lib.hid (by omega)
  go_enter Try.func34, Try.ntmps34
  go_wp2_with (first | (go_at_call 44; refine (table_calls _).mono ?_; rintro e w1 ⟨rfl, hb⟩) | (go_at_call 36; refine (single_calls _ _).mono ?_; rintro e w' ⟨rfl, rfl⟩) | (go_at_call 62; refine (rounded_calls _ (by omega) (by omega) _ (conv_lt (s := .f32) (k := .f64) (by decide) (HR.out _)) _).mono ?_; rintro e w' ⟨r, c, rfl, hQ, rfl⟩; have HQ := Lib.hid hQ; clear hQ; obtain ⟨D2, C2, hD2, hR2⟩ := conv_down r; have HR2 := Lib.hid hR2; clear hR2) | (go_at_call 49; refine (bits32_any _ (conv_lt (s := .f64) (k := .f32) (by decide) (HR2.out _)) _).mono ?_; rintro e w' ⟨rfl, rfl⟩))
  go_ret2
  exact ⟨_, rfl, ⟨_, _, _, HR.out _, by rw [if_neg C6.out]; exact HQ.out, HR2.out _, rfl⟩, below_drewN (hb.alloc hb.size _) _⟩
set_option maxRecDepth 100000 in
theorem unary_32s (a : Int) (w : World) : Calls Try.prog 34 #[.int .i64 145, .int .u64 a] w (UnPost (Un32 6 (a % 4294967296).toNat) w) := by
  obtain ⟨D, C, hD, hR⟩ := conv_up (a % 4294967296).toNat
  have HR := Lib.hid hR
  clear hR
  go_enter Try.func34, Try.ntmps34
  go_wp2_with (first | (go_at_call 44; refine (table_calls _).mono ?_; rintro e w1 ⟨rfl, hb⟩) | (go_at_call 36; refine (single_calls _ _).mono ?_; rintro e w' ⟨rfl, rfl⟩) | (go_at_call 61; refine (sqrt_calls _ _).mono ?_; rintro e w' ⟨r, c, rfl, hQ, rfl⟩; have HQ := Lib.hid hQ; clear hQ; obtain ⟨D2, C2, hD2, hR2⟩ := conv_down r; have HR2 := Lib.hid hR2; clear hR2) | (go_at_call 49; refine (bits32_any _ (conv_lt (s := .f64) (k := .f32) (by decide) (HR2.out _)) _).mono ?_; rintro e w' ⟨rfl, rfl⟩))
  go_ret2
  exact ⟨_, rfl, ⟨_, _, _, HR.out _, by rw [if_pos rfl]; exact HQ.out, HR2.out _, rfl⟩, below_drewN (hb.alloc hb.size _) _⟩
set_option maxRecDepth 100000 in
theorem unary_64 (op a : Int) (ha : a < 18446744073709551616) (h0 : 155 ≤ op) (h1 : op < 159) (w : World) : Calls Try.prog 34 #[.int .i64 op, .int .u64 a] w (UnPost (Un64 (op - 153) a.toNat) w) := by
  have c6 : (op - 153 == 6) = false := by simp; omega
  have C6 : Hid (op - 153 ≠ 6) := Lib.hid (by omega)
  go_enter Try.func34, Try.ntmps34
  go_wp2_with (first | (go_at_call 44; refine (table_calls _).mono ?_; rintro e w1 ⟨rfl, hb⟩) | (go_at_call 37; refine (double_calls _ _).mono ?_; rintro e w' ⟨rfl, rfl⟩) | (go_at_call 62; refine (rounded_calls _ (by omega) (by omega) _ (by omega) _).mono ?_; rintro e w' ⟨r, c, rfl, hQ, rfl⟩; have HQ := Lib.hid hQ; clear hQ) | (go_at_call 51; refine (bits64_any _ _).mono ?_; rintro e w' ⟨rfl, rfl⟩))
  go_ret2
  exact ⟨_, rfl, ⟨_, by rw [if_neg C6.out]; exact HQ.out, rfl⟩, below_drewN (hb.alloc hb.size _) _⟩
set_option maxRecDepth 100000 in
theorem unary_64s (a : Int) (w : World) : Calls Try.prog 34 #[.int .i64 159, .int .u64 a] w (UnPost (Un64 6 a.toNat) w) := by
  go_enter Try.func34, Try.ntmps34
  go_wp2_with (first | (go_at_call 44; refine (table_calls _).mono ?_; rintro e w1 ⟨rfl, hb⟩) | (go_at_call 37; refine (double_calls _ _).mono ?_; rintro e w' ⟨rfl, rfl⟩) | (go_at_call 61; refine (sqrt_calls _ _).mono ?_; rintro e w' ⟨r, c, rfl, hQ, rfl⟩; have HQ := Lib.hid hQ; clear hQ) | (go_at_call 51; refine (bits64_any _ _).mono ?_; rintro e w' ⟨rfl, rfl⟩))
  go_ret2
  exact ⟨_, rfl, ⟨_, by rw [if_pos rfl]; exact HQ.out, rfl⟩, below_drewN (hb.alloc hb.size _) _⟩
set_option maxRecDepth 100000 in
theorem abs_32 (a : Int) (w : World) : Calls Try.prog 34 #[.int .i64 139, .int .u64 a] w fun e w' => e = .returned (.tuple #[.int .u64 (bits .andNot .u64 (a % 4294967296) 2147483648), .int .i64 0]) ∧ Below w.heap.size w w' := by
  go_enter Try.func34, Try.ntmps34
  go_wp2_with (first | (go_at_call 44; refine (table_calls _).mono ?_; rintro e w1 ⟨rfl, hb⟩) | (go_at_call 60; refine (signs_abs _ _ _).mono ?_; rintro e w' ⟨rfl, rfl⟩))
  go_ret2
  exact ⟨rfl, hb.alloc hb.size _⟩
set_option maxRecDepth 100000 in
theorem abs_64 (a : Int) (w : World) : Calls Try.prog 34 #[.int .i64 153, .int .u64 a] w fun e w' => e = .returned (.tuple #[.int .u64 (bits .andNot .u64 a 9223372036854775808), .int .i64 0]) ∧ Below w.heap.size w w' := by
  go_enter Try.func34, Try.ntmps34
  go_wp2_with (first | (go_at_call 44; refine (table_calls _).mono ?_; rintro e w1 ⟨rfl, hb⟩) | (go_at_call 60; refine (signs_abs _ _ _).mono ?_; rintro e w' ⟨rfl, rfl⟩))
  go_ret2
  exact ⟨rfl, hb.alloc hb.size _⟩
set_option maxRecDepth 100000 in
theorem unary_no (op a : Int) (h : op < 139 ∨ (146 ≤ op ∧ op < 153) ∨ 160 ≤ op) (w : World) : Calls Try.prog 34 #[.int .i64 op, .int .u64 a] w fun e w' => e = .returned (.tuple #[.int .u64 0, .int .i64 1]) ∧ Below w.heap.size w w' := by
  rcases h with h | ⟨h, h'⟩ | h
  all_goals
    go_enter Try.func34, Try.ntmps34
    go_wp2_with (go_at_call 44; refine (table_calls _).mono ?_; rintro e w1 ⟨rfl, hb⟩)
    go_ret2
    exact ⟨rfl, hb.alloc hb.size _⟩
end Go.Proofs.Ytapfapngcncaeaa.Fl
