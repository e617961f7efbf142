/- The walk of ratchetlaw04.FnumBinary and its plain law. -/
import Derived.Test.YtapfapngcncaeaaBin6
namespace Go.Proofs.Ytapfapngcncaeaa.FnumBinaryWalk
open Go.RowKit Go.Proofs.Ytapfapngcncaeaa.Fl Go.Proofs.Ytapfapngcncaeaa.Ie Go.Proofs.Ytapfapngcncaeaa.QF Go.Proofs.Ytapfapngcncaeaa.Rf

theorem format_32 (k : Nat) (op : Int) (h0 : 146 ≤ op) (h1 : op < 153) : ratchetref04_format.f (k + 1) op 146 160 7 = some (23, 8, op - 146, true) := by
  unfold ratchetref04_format.f
  rw [if_pos h0]
  rw [ratchetref04_format.j0.eq_2]
  rw [show wrap64 (146 + 7) = 153 by kernel_rfl, if_pos (decide_eq_true h1), show ratchetref04_F32.f = some (23, 8) by kernel_rfl]
  simp only [Option.bind_some]
  rw [show wrap64 (op - 146) = op - 146 by unfold wrap64; omega]
theorem format_64 (k : Nat) (op : Int) (h0 : 160 ≤ op) (h1 : op < 167) : ratchetref04_format.f (k + 1) op 146 160 7 = some (52, 11, op - 160, true) := by
  unfold ratchetref04_format.f
  rw [if_pos (by omega)]
  rw [ratchetref04_format.j0.eq_2]
  rw [show wrap64 (146 + 7) = 153 by kernel_rfl, if_neg (by simp; omega), show ratchetref04_F64.f = some (52, 11) by kernel_rfl]
  simp only [Option.bind_some]
  rw [if_pos (by omega), show wrap64 (op - 160) = op - 160 by unfold wrap64; omega, show wrap64 (160 + 7) = 167 by kernel_rfl, decide_eq_true h1]
theorem format_no (k : Nat) (op : Int) (h : op < 146 ∨ (153 ≤ op ∧ op < 160) ∨ 167 ≤ op) : ∃ p, ratchetref04_format.f (k + 1) op 146 160 7 = some p ∧ p.2.2.2 = false := by
  unfold ratchetref04_format.f
  have hF : ratchetref04_F64.f = some (52, 11) := by kernel_rfl
  by_cases c : op ≥ 146
  · rw [if_pos c]
    rw [ratchetref04_format.j0.eq_2]
    rw [show wrap64 (146 + 7) = 153 by kernel_rfl, if_neg (by simp; omega), hF]
    simp only [Option.bind_some]
    by_cases d : op ≥ 160
    · rw [if_pos d]; refine ⟨_, rfl, ?_⟩
      rw [show wrap64 (160 + 7) = 167 by kernel_rfl]
      exact decide_eq_false (by omega)
    · rw [if_neg d]; exact ⟨_, rfl, rfl⟩
  · rw [if_neg c]
    rw [ratchetref04_format.j0.eq_2]
    rw [if_neg (by decide), hF]
    simp only [Option.bind_some]
    rw [if_neg (by omega)]; exact ⟨_, rfl, rfl⟩

theorem sign_32 (a b : Int) (ha : 0 ≤ a) (ha1 : a < 18446744073709551616) (hb : 0 ≤ b) (hb1 : b < 18446744073709551616) :
    IntKind.u64.wrap ((a % 4294967296) % 2147483648 + bits .and .u64 (b % 4294967296) 2147483648) = bits .or .u64 (bits .and .u64 a 2147483647) (bits .and .u64 b 2147483648) := by
  have e1 : ∀ y : Int, 0 ≤ y → y < 18446744073709551616 → bits .and .u64 y 2147483648 = ((y.toNat / 2147483648 % 2 * 2147483648 : Nat) : Int) := by
    intro y h0 h1
    rw [u64_and y 2147483648 h0 h1 (by decide) (by decide), show Int.toNat 2147483648 = 2 ^ 31 by decide, nat_bit, show (2 : Nat) ^ 31 = 2147483648 by decide]
  rw [e1 (b % 4294967296) (by omega) (by omega), e1 b hb hb1, and31 a ha ha1]
  have e2 : (b % 4294967296).toNat / 2147483648 % 2 = b.toNat / 2147483648 % 2 := by omega
  rw [e2]
  obtain ⟨A, hA⟩ : ∃ A : Nat, a % 2147483648 = (A : Int) := ⟨(a % 2147483648).toNat, by omega⟩
  have hA2 : A < 2147483648 := by omega
  have e3 : (a % 4294967296) % 2147483648 = (A : Int) := by omega
  rw [e3, hA]
  have hq : b.toNat / 2147483648 % 2 = 0 ∨ b.toNat / 2147483648 % 2 = 1 := by omega
  have hor : bits .or .u64 (A : Int) ((b.toNat / 2147483648 % 2 * 2147483648 : Nat) : Int) = ((A ||| b.toNat / 2147483648 % 2 * 2147483648 : Nat) : Int) := u64_or_nat A _ (by omega) (by omega)
  rw [hor, Nat.or_comm]
  have h2 := Nat.two_pow_add_eq_or_of_lt (i := 31) (b := A) (by rw [show (2 : Nat) ^ 31 = 2147483648 by decide]; exact hA2) (b.toNat / 2147483648 % 2)
  rw [show (2 : Nat) ^ 31 = 2147483648 by decide, Nat.mul_comm] at h2
  rw [← h2, IntKind.wrap_u64]
  omega

theorem sign_64 (a b : Int) (ha : 0 ≤ a) (ha1 : a < 18446744073709551616) (hb : 0 ≤ b) (hb1 : b < 18446744073709551616) :
    IntKind.u64.wrap ((a) % 9223372036854775808 + bits .and .u64 (b) 9223372036854775808) = bits .or .u64 (bits .and .u64 a 9223372036854775807) (bits .and .u64 b 9223372036854775808) := by
  have e1 : ∀ y : Int, 0 ≤ y → y < 18446744073709551616 → bits .and .u64 y 9223372036854775808 = ((y.toNat / 9223372036854775808 % 2 * 9223372036854775808 : Nat) : Int) := by
    intro y h0 h1
    rw [u64_and y 9223372036854775808 h0 h1 (by decide) (by decide), show Int.toNat 9223372036854775808 = 2 ^ 63 by decide, nat_bit, show (2 : Nat) ^ 63 = 9223372036854775808 by decide]
  rw [e1 (b) (by omega) (by omega), and63 a ha ha1]
  have e2 : (b).toNat / 9223372036854775808 % 2 = b.toNat / 9223372036854775808 % 2 := by omega
  rw [e2]
  obtain ⟨A, hA⟩ : ∃ A : Nat, a % 9223372036854775808 = (A : Int) := ⟨(a % 9223372036854775808).toNat, by omega⟩
  have hA2 : A < 9223372036854775808 := by omega
  have e3 : (a) % 9223372036854775808 = (A : Int) := by omega
  rw [hA]
  have hq : b.toNat / 9223372036854775808 % 2 = 0 ∨ b.toNat / 9223372036854775808 % 2 = 1 := by omega
  have hor : bits .or .u64 (A : Int) ((b.toNat / 9223372036854775808 % 2 * 9223372036854775808 : Nat) : Int) = ((A ||| b.toNat / 9223372036854775808 % 2 * 9223372036854775808 : Nat) : Int) := u64_or_nat A _ (by omega) (by omega)
  rw [hor, Nat.or_comm]
  have h2 := Nat.two_pow_add_eq_or_of_lt (i := 63) (b := A) (by rw [show (2 : Nat) ^ 63 = 9223372036854775808 by decide]; exact hA2) (b.toNat / 9223372036854775808 % 2)
  rw [show (2 : Nat) ^ 63 = 9223372036854775808 by decide, Nat.mul_comm] at h2
  rw [← h2, IntKind.wrap_u64]
  omega

set_option maxRecDepth 100000 in
theorem ref_calls (k : Nat) (n a b p q o v : Int) (hf : ratchetref04_format.f k n 146 160 7 = some (p, q, o, true))
    (h : ∀ w : World, Calls Try.prog 53 #[.agg #[.int .i64 p, .int .i64 q], .int .i64 o, .int .u64 a, .int .u64 b] w fun e w' => e = .returned (.int .u64 v) ∧ Below w.heap.size w w') (w : World) :
    Calls Try.prog 30 #[.int .i64 n, .int .u64 a, .int .u64 b] w fun e w' => e = .returned (.tuple #[.int .u64 v, .int .i64 0]) ∧ Below w.heap.size w w' := by
  have HF := Lib.hid hf
  have H := Lib.hid h
  clear hf h
  go_enter Try.func30, Try.ntmps30
  go_wp2_with (first | (go_at_call 47; refine (ratchetref04_format.calls k n 146 160 7 p q o true _ HF.out).mono ?_; rintro e w1 ⟨rfl, hb1⟩) | (go_at_call 53; refine (H.out _).mono ?_; rintro e w2 ⟨rfl, hb2⟩))
  go_ret2
  exact ⟨rfl, (hb1.alloc hb1.size _).trans (hb2.mono (hb1.alloc hb1.size _).size)⟩
set_option maxRecDepth 100000 in
theorem ref_no (k : Nat) (n a b p q o : Int) (hf : ratchetref04_format.f k n 146 160 7 = some (p, q, o, false)) (w : World) :
    Calls Try.prog 30 #[.int .i64 n, .int .u64 a, .int .u64 b] w fun e w' => e = .returned (.tuple #[.int .u64 0, .int .i64 1]) ∧ Below w.heap.size w w' := by
  have HF := Lib.hid hf
  clear hf
  go_enter Try.func30, Try.ntmps30
  go_wp2_with (go_at_call 47; refine (ratchetref04_format.calls k n 146 160 7 p q o false _ HF.out).mono ?_; rintro e w1 ⟨rfl, hb1⟩)
  go_ret2
  exact ⟨rfl, hb1.alloc hb1.size _⟩
set_option maxRecDepth 100000 in
theorem law (n a b x e : Int) (w : World)
    (h1 : ∀ w : World, Calls Try.prog 29 #[.int .i64 n, .int .u64 a, .int .u64 b] w fun r w' => r = .returned (.tuple #[.int .u64 x, .int .i64 e]) ∧ Below w.heap.size w w')
    (h2 : ∀ w : World, Calls Try.prog 30 #[.int .i64 n, .int .u64 a, .int .u64 b] w fun r w' => r = .returned (.tuple #[.int .u64 x, .int .i64 e]) ∧ Below w.heap.size w w') :
    Calls Try.prog 7 #[.int .i64 n, .int .u64 a, .int .u64 b] w fun r w' => r = .returned (.bool true) ∧ Below w.heap.size w w' := by
  have H1 := Lib.hid h1
  have H2 := Lib.hid h2
  clear h1 h2
  go_enter Try.func7, Try.ntmps7
  go_wp2_with (first | (go_at_call 29; refine (H1.out _).mono ?_; rintro r w1 ⟨rfl, hb1⟩) | (go_at_call 30; refine (H2.out _).mono ?_; rintro r w2 ⟨rfl, hb2⟩))
  go_ret
  exact ⟨rfl, hb1.trans (hb2.mono hb1.size)⟩
theorem walk (n a b : Int) (w : World) (_ : (Lit.int .i64 n).wf = true) (ha : (Lit.int .u64 a).wf = true) (hb : (Lit.int .u64 b).wf = true) :
    Calls Try.prog 7 #[.int .i64 n, .int .u64 a, .int .u64 b] w fun r w' => r = .returned (.bool true) ∧ Below w.heap.size w w' := by
  simp [Lit.wf, IntKind.min, IntKind.max, IntKind.signed, IntKind.bits] at ha hb
  have ha0 : 0 ≤ a := ha.1
  have ha1 : a < 18446744073709551616 := by omega
  have hb0 : 0 ≤ b := hb.1
  have hb1 : b < 18446744073709551616 := by omega
  by_cases c0 : n < 146 ∨ (153 ≤ n ∧ n < 160) ∨ 167 ≤ n
  · obtain ⟨⟨p, q, o, is⟩, h1, h2⟩ := format_no 0 n c0
    have h2 : is = false := h2
    subst h2
    exact law n a b 0 1 w (binary_no n a b · c0) (ref_no 1 n a b p q o h1)
  by_cases c1 : n < 153
  · have hf := format_32 0 n (by omega) c1
    have ca : ratchetref04_Format_cut.f 23 8 a = some (((a % 4294967296).toNat : Nat) : Int) := by rw [cut32 a ha0 ha1]; congr 1; omega
    have cb : ratchetref04_Format_cut.f 23 8 b = some (((b % 4294967296).toNat : Nat) : Int) := by rw [cut32 b hb0 hb1]; congr 1; omega
    by_cases c6 : n = 152
    · subst c6
      refine law 152 a b _ 0 w (binary_32s a b ·) (ref_calls 1 152 a b _ _ _ _ hf ?_)
      intro w
      rw [← sign_32 a b ha0 ha1 hb0 hb1]
      exact bin_sign 23 8 a b _ _ _ _ (cut32 a ha0 ha1) (cut32 b hb0 hb1) (size32 _ (by omega) (by omega)) sign32 w
    · exact law n a b _ 0 w (binary_32 n a b · (by omega) (by omega)) (ref_calls 1 n a b _ _ _ _ hf (meth_32 (n - 146) a b _ _ (by omega) (by omega) (by omega) (by omega) ca cb))
  · have hf := format_64 0 n (by omega) (by omega)
    have ca : ratchetref04_Format_cut.f 52 11 a = some ((a.toNat : Nat) : Int) := by rw [cut64 a]; congr 1; omega
    have cb : ratchetref04_Format_cut.f 52 11 b = some ((b.toNat : Nat) : Int) := by rw [cut64 b]; congr 1; omega
    by_cases c6 : n = 166
    · subst c6
      refine law 166 a b _ 0 w (binary_64s a b ·) (ref_calls 1 166 a b _ _ _ _ hf ?_)
      intro w
      rw [← sign_64 a b ha0 ha1 hb0 hb1]
      exact bin_sign 52 11 a b _ _ _ _ (cut64 a) (cut64 b) (size64 _ (by omega) (by omega)) sign64 w
    · exact law n a b _ 0 w (binary_64 n a b · (by omega) (by omega)) (ref_calls 1 n a b _ _ _ _ hf (meth_64 (n - 160) a b _ _ (by omega) (by omega) (by omega) (by omega) ca cb))
end Go.Proofs.Ytapfapngcncaeaa.FnumBinaryWalk
