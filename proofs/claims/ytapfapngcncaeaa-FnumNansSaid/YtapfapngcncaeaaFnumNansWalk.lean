/- The walk of ratchetlaw04.FnumNans and its plain law. -/
import Derived.Test.YtapfapngcncaeaaPFnumNansx2
import Derived.Test.YtapfapngcncaeaaFl4
import Derived.Test.YtapfapngcncaeaaRf
namespace Go.Proofs.Ytapfapngcncaeaa.FnumNansWalk
open Go.RowKit Go.Proofs.Ytapfapngcncaeaa.PFnumNans Go.Proofs.Ytapfapngcncaeaa.Fl Go.Proofs.Ytapfapngcncaeaa.Ie Go.Proofs.Ytapfapngcncaeaa.Rf

theorem eff (f : Ieee.Format) (hf : 1 ≤ f.exponentBits) (x : Nat) : (f.order x x != some .eq) = decide (f.infRung < rung f x) := by
  rw [bne, order_self_eq f hf]
  by_cases h : f.infRung < rung f x
  · simp [h]
  · simp [h]; omega

theorem ref32 (k : Nat) (a : Int) (h0 : 0 ≤ a) (h1 : a < 18446744073709551616) :
    ratchetref04_Nan.f (k + 1 + 1) 32 a = some (decide (a % 4294967296 % 2147483648 > 2139095040), a % 4294967296 % 2147483648 == 2143289344, 0) := by
  have e : ∀ x : Int, 0 ≤ x → x < 18446744073709551616 → ratchetref04_Format_size.f 23 8 x = some (x % 2147483648) := by
    intro x hx0 hx1
    unfold ratchetref04_Format_size.f
    rw [show ratchetref04_Format_sign.f 23 8 = some 2147483648 by kernel_rfl, ← and31 x hx0 hx1]; rfl
  have e2 : ratchetref04_Format_cut.f 23 8 a = some (a % 4294967296) := by unfold ratchetref04_Format_cut.f; rw [show ratchetref04_Format_width.f 23 8 = some 32 by kernel_rfl, ← and32 a h0 h1]; rfl
  have e3 : ratchetref04_Format_nan.f 23 8 = some 2143289344 := by kernel_rfl
  have e4 : ratchetref04_Format_inf.f 23 8 = some 2139095040 := by kernel_rfl
  unfold ratchetref04_Nan.f ratchetref04_F32.f
  simp only [Option.bind_some, ratchetref04_Nan.j0, ratchetref04_Nan.j1, ratchetref04_Format_isNan.f, e2, e3, e4, e (a % 4294967296) (by omega) (by omega)]
  simp
theorem ref64 (k : Nat) (a : Int) (h0 : 0 ≤ a) (h1 : a < 18446744073709551616) :
    ratchetref04_Nan.f (k + 1 + 1) 64 a = some (decide (a % 9223372036854775808 > 9218868437227405312), a % 9223372036854775808 == 9221120237041090560, 0) := by
  have e : ∀ x : Int, 0 ≤ x → x < 18446744073709551616 → ratchetref04_Format_size.f 52 11 x = some (x % 9223372036854775808) := by
    intro x hx0 hx1
    unfold ratchetref04_Format_size.f
    rw [show ratchetref04_Format_sign.f 52 11 = some 9223372036854775808 by kernel_rfl, ← and63 x hx0 hx1]; rfl
  have e2 : ratchetref04_Format_cut.f 52 11 a = some a := by unfold ratchetref04_Format_cut.f; rw [show ratchetref04_Format_width.f 52 11 = some 64 by kernel_rfl]; rfl
  have e3 : ratchetref04_Format_nan.f 52 11 = some 9221120237041090560 := by kernel_rfl
  have e4 : ratchetref04_Format_inf.f 52 11 = some 9218868437227405312 := by kernel_rfl
  unfold ratchetref04_Nan.f ratchetref04_F32.f ratchetref04_F64.f
  simp only [Option.bind_some, ratchetref04_Nan.j0, ratchetref04_Nan.j1, ratchetref04_Format_isNan.f, e2, e3, e4, e a h0 h1]
  simp
theorem refno (k : Nat) (n a : Int) (h1 : n ≠ 32) (h2 : n ≠ 64) : ratchetref04_Nan.f (k + 1 + 1) n a = some (false, false, 1) := by
  unfold ratchetref04_Nan.f ratchetref04_F32.f
  simp [ratchetref04_Nan.j0, ratchetref04_Nan.j1, h1, h2]

set_option maxRecDepth 100000 in
theorem law (n a : Int) (p q : Bool) (e c d : Int) (k : Nat) (w : World)
    (h14 : ∀ w, Calls Try.prog 14 #[.int .i64 n, .int .u64 a] w fun x w' => x = .returned (.tuple #[.bool p, .bool q, .int .i64 e]) ∧ w' = w)
    (h15 : ratchetref04_Nan.f k n a = some (p, q, e))
    (h16 : ∀ w, Calls Try.prog 16 #[.int .i64 n] w fun x w' => x = .returned (.tuple #[.int .u64 c, .int .i64 d]) ∧ w' = w)
    (h17 : ratchetref04_Canon.f n = some (c, d)) :
    Calls Try.prog 3 #[.int .i64 n, .int .u64 a] w fun x w' => x = .returned (.bool true) ∧ Below w.heap.size w w' := by
  have H14 := Lib.hid h14
  have H15 := Lib.hid h15
  have H16 := Lib.hid h16
  have H17 := Lib.hid h17
  clear h14 h15 h16 h17
  go_enter Try.func3, Try.ntmps3
  go_wp2_with (first | (go_at_call 14; refine (H14.out _).mono ?_; rintro x w' ⟨rfl, rfl⟩) | (go_at_call 15; refine (ratchetref04_Nan.calls k n a p q e _ H15.out).mono ?_; rintro x w1 ⟨rfl, hb1⟩) | (go_at_call 16; refine (H16.out _).mono ?_; rintro x w' ⟨rfl, rfl⟩) | (go_at_call 17; refine (ratchetref04_Canon.calls n c d _ H17.out).mono ?_; rintro x w2 ⟨rfl, hb2⟩))
  go_ret
  exact ⟨rfl, hb1.trans (hb2.mono hb1.size)⟩

theorem walk (n a : Int) (w : World) (_ : (Lit.int .i64 n).wf = true) (ha : (Lit.int .u64 a).wf = true) :
    Calls Try.prog 3 #[.int .i64 n, .int .u64 a] w fun x w' => x = .returned (.bool true) ∧ Below w.heap.size w w' := by
  simp [Lit.wf, IntKind.min, IntKind.max, IntKind.signed, IntKind.bits] at ha
  have h0 : 0 ≤ a := ha.1
  have h1 : a < 18446744073709551616 := by omega
  by_cases e1 : n = 32
  · subst e1
    refine law 32 a _ _ _ 2143289344 0 2 w (fun w => ?_) (ref32 0 a h0 h1) canon_32 (by kernel_rfl)
    have h := nan_32 a w
    rw [eff _ (by decide), and31 a h0 h1] at h
    have e2 : decide (FloatKind.f32.format.infRung < rung FloatKind.f32.format (a % 4294967296).toNat) = decide (a % 4294967296 % 2147483648 > 2139095040) := by
      unfold rung
      rw [show FloatKind.f32.format.infRung = 2139095040 by decide, show FloatKind.f32.format.signWeight = 2147483648 by decide, decide_eq_decide]
      omega
    have e3 : a % 2147483648 = a % 4294967296 % 2147483648 := by omega
    rw [e2, e3] at h
    exact h
  · by_cases e2 : n = 64
    · subst e2
      refine law 64 a _ _ _ 9221120237041090560 0 2 w (fun w => ?_) (ref64 0 a h0 h1) canon_64 (by kernel_rfl)
      have h := nan_64 a w
      rw [eff _ (by decide), and63 a h0 h1] at h
      have e2 : decide (FloatKind.f64.format.infRung < rung FloatKind.f64.format a.toNat) = decide (a % 9223372036854775808 > 9218868437227405312) := by
        unfold rung
        rw [show FloatKind.f64.format.infRung = 9218868437227405312 by decide, show FloatKind.f64.format.signWeight = 9223372036854775808 by decide, decide_eq_decide]
        omega
      rw [e2] at h
      exact h
    · refine law n a _ _ _ 0 1 2 w (fun w => nan_no n a w (by simpa using e1) (by simpa using e2)) (refno 0 n a e1 e2) (fun w => canon_no n w (by simpa using e1) (by simpa using e2)) ?_
      unfold ratchetref04_Canon.f
      rw [if_neg e1, if_neg e2]
end Go.Proofs.Ytapfapngcncaeaa.FnumNansWalk
