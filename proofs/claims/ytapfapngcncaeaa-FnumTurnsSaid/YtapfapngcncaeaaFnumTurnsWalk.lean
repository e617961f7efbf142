/- The walk of ratchetlaw04.FnumTurns and its plain law. -/
import Derived.Test.YtapfapngcncaeaaFl5
namespace Go.Proofs.Ytapfapngcncaeaa.FnumTurnsWalk
open Go.RowKit Go.Proofs.Ytapfapngcncaeaa.Fl Go.Proofs.Ytapfapngcncaeaa.Ie


set_option maxRecDepth 100000 in
theorem law32 (a b x p n d : Int) (w : World)
    (h1 : ∀ w : World, Calls Try.prog 29 #[.int .i64 146, .int .u64 a, .int .u64 b] w fun r w' => r = .returned (.tuple #[.int .u64 x, .int .i64 0]) ∧ Below w.heap.size w w')
    (h2 : ∀ w : World, Calls Try.prog 29 #[.int .i64 146, .int .u64 b, .int .u64 a] w fun r w' => r = .returned (.tuple #[.int .u64 x, .int .i64 0]) ∧ Below w.heap.size w w')
    (h3 : ∀ w : World, Calls Try.prog 29 #[.int .i64 148, .int .u64 a, .int .u64 b] w fun r w' => r = .returned (.tuple #[.int .u64 p, .int .i64 0]) ∧ Below w.heap.size w w')
    (h4 : ∀ w : World, Calls Try.prog 29 #[.int .i64 148, .int .u64 b, .int .u64 a] w fun r w' => r = .returned (.tuple #[.int .u64 p, .int .i64 0]) ∧ Below w.heap.size w w')
    (h5 : ∀ w : World, Calls Try.prog 34 #[.int .i64 140, .int .u64 b] w fun r w' => r = .returned (.tuple #[.int .u64 n, .int .i64 0]) ∧ Below w.heap.size w w')
    (h6 : ∀ w : World, Calls Try.prog 29 #[.int .i64 147, .int .u64 a, .int .u64 b] w fun r w' => r = .returned (.tuple #[.int .u64 d, .int .i64 0]) ∧ Below w.heap.size w w')
    (h7 : ∀ w : World, Calls Try.prog 29 #[.int .i64 146, .int .u64 a, .int .u64 n] w fun r w' => r = .returned (.tuple #[.int .u64 d, .int .i64 0]) ∧ Below w.heap.size w w') :
    Calls Try.prog 11 #[.int .u64 a, .int .u64 b, .bool false] w fun r w' => r = .returned (.bool true) ∧ Below w.heap.size w w' := by
  have H1 := Lib.hid h1
  have H2 := Lib.hid h2
  have H3 := Lib.hid h3
  have H4 := Lib.hid h4
  have H5 := Lib.hid h5
  have H6 := Lib.hid h6
  have H7 := Lib.hid h7
  clear h1 h2 h3 h4 h5 h6 h7
  go_enter Try.func11, Try.ntmps11
  go_wp2_with fail
  refine (alive_calls _).mono ?_; rintro r w0 ⟨rfl, hb0⟩
  go_wp2_with fail
  refine (H1.out _).mono ?_; rintro r w1 ⟨rfl, hb1⟩
  go_wp2_with fail
  refine (H2.out _).mono ?_; rintro r w2 ⟨rfl, hb2⟩
  go_wp2_with fail
  refine (H3.out _).mono ?_; rintro r w3 ⟨rfl, hb3⟩
  go_wp2_with fail
  refine (H4.out _).mono ?_; rintro r w4 ⟨rfl, hb4⟩
  go_wp2_with fail
  refine (H5.out _).mono ?_; rintro r w5 ⟨rfl, hb5⟩
  go_wp2_with fail
  refine (H6.out _).mono ?_; rintro r w6 ⟨rfl, hb6⟩
  go_wp2_with fail
  refine (H7.out _).mono ?_; rintro r w7 ⟨rfl, hb7⟩
  go_wp2_with fail
  go_ret
  have s0 := hb0.size
  have s1 := hb1.size
  have s2 := hb2.size
  have s3 := hb3.size
  have s4 := hb4.size
  have s5 := hb5.size
  have s6 := hb6.size
  exact ⟨rfl, (((((((hb0.trans (hb1.mono (by omega))).trans (hb2.mono (by omega))).trans (hb3.mono (by omega))).trans (hb4.mono (by omega))).trans (hb5.mono (by omega))).trans (hb6.mono (by omega))).trans (hb7.mono (by omega)))⟩


set_option maxRecDepth 100000 in
theorem law64 (a b x p n d : Int) (w : World)
    (h1 : ∀ w : World, Calls Try.prog 29 #[.int .i64 160, .int .u64 a, .int .u64 b] w fun r w' => r = .returned (.tuple #[.int .u64 x, .int .i64 0]) ∧ Below w.heap.size w w')
    (h2 : ∀ w : World, Calls Try.prog 29 #[.int .i64 160, .int .u64 b, .int .u64 a] w fun r w' => r = .returned (.tuple #[.int .u64 x, .int .i64 0]) ∧ Below w.heap.size w w')
    (h3 : ∀ w : World, Calls Try.prog 29 #[.int .i64 162, .int .u64 a, .int .u64 b] w fun r w' => r = .returned (.tuple #[.int .u64 p, .int .i64 0]) ∧ Below w.heap.size w w')
    (h4 : ∀ w : World, Calls Try.prog 29 #[.int .i64 162, .int .u64 b, .int .u64 a] w fun r w' => r = .returned (.tuple #[.int .u64 p, .int .i64 0]) ∧ Below w.heap.size w w')
    (h5 : ∀ w : World, Calls Try.prog 34 #[.int .i64 154, .int .u64 b] w fun r w' => r = .returned (.tuple #[.int .u64 n, .int .i64 0]) ∧ Below w.heap.size w w')
    (h6 : ∀ w : World, Calls Try.prog 29 #[.int .i64 161, .int .u64 a, .int .u64 b] w fun r w' => r = .returned (.tuple #[.int .u64 d, .int .i64 0]) ∧ Below w.heap.size w w')
    (h7 : ∀ w : World, Calls Try.prog 29 #[.int .i64 160, .int .u64 a, .int .u64 n] w fun r w' => r = .returned (.tuple #[.int .u64 d, .int .i64 0]) ∧ Below w.heap.size w w') :
    Calls Try.prog 11 #[.int .u64 a, .int .u64 b, .bool true] w fun r w' => r = .returned (.bool true) ∧ Below w.heap.size w w' := by
  have H1 := Lib.hid h1
  have H2 := Lib.hid h2
  have H3 := Lib.hid h3
  have H4 := Lib.hid h4
  have H5 := Lib.hid h5
  have H6 := Lib.hid h6
  have H7 := Lib.hid h7
  clear h1 h2 h3 h4 h5 h6 h7
  go_enter Try.func11, Try.ntmps11
  go_wp2_with fail
  refine (alive_calls _).mono ?_; rintro r w0 ⟨rfl, hb0⟩
  go_wp2_with fail
  refine (H1.out _).mono ?_; rintro r w1 ⟨rfl, hb1⟩
  go_wp2_with fail
  refine (H2.out _).mono ?_; rintro r w2 ⟨rfl, hb2⟩
  go_wp2_with fail
  refine (H3.out _).mono ?_; rintro r w3 ⟨rfl, hb3⟩
  go_wp2_with fail
  refine (H4.out _).mono ?_; rintro r w4 ⟨rfl, hb4⟩
  go_wp2_with fail
  refine (H5.out _).mono ?_; rintro r w5 ⟨rfl, hb5⟩
  go_wp2_with fail
  refine (H6.out _).mono ?_; rintro r w6 ⟨rfl, hb6⟩
  go_wp2_with fail
  refine (H7.out _).mono ?_; rintro r w7 ⟨rfl, hb7⟩
  go_wp2_with fail
  go_ret
  have s0 := hb0.size
  have s1 := hb1.size
  have s2 := hb2.size
  have s3 := hb3.size
  have s4 := hb4.size
  have s5 := hb5.size
  have s6 := hb6.size
  exact ⟨rfl, (((((((hb0.trans (hb1.mono (by omega))).trans (hb2.mono (by omega))).trans (hb3.mono (by omega))).trans (hb4.mono (by omega))).trans (hb5.mono (by omega))).trans (hb6.mono (by omega))).trans (hb7.mono (by omega)))⟩


theorem walk (a b : Int) (wide : Bool) (w : World) (ha : (Lit.int .u64 a).wf = true) (hb : (Lit.int .u64 b).wf = true) :
    Calls Try.prog 11 #[.int .u64 a, .int .u64 b, .bool wide] w fun r w' => r = .returned (.bool true) ∧ Below w.heap.size w w' := by
  simp [Lit.wf, IntKind.min, IntKind.max, IntKind.signed, IntKind.bits] at ha hb
  have ha0 : 0 ≤ a := ha.1
  have ha1 : a < 18446744073709551616 := by omega
  have hb0 : 0 ≤ b := hb.1
  have hb1 : b < 18446744073709551616 := by omega
  cases wide with
  | false =>
    refine law32 a b _ _ _ _ w (fun w => binary_32 146 a b w (by decide) (by decide)) (fun w => ?_) (fun w => binary_32 148 a b w (by decide) (by decide)) (fun w => ?_) (neg_32 b) (fun w => binary_32 147 a b w (by decide) (by decide)) (fun w => ?_)
    · have h := binary_32 146 b a w (by decide) (by decide)
      rw [show arith .f32 (146 - 146) (b % 4294967296).toNat (a % 4294967296).toNat = arith .f32 (146 - 146) (a % 4294967296).toNat (b % 4294967296).toNat from add_comm _ _ _] at h
      exact h
    · have h := binary_32 148 b a w (by decide) (by decide)
      rw [show arith .f32 (148 - 146) (b % 4294967296).toNat (a % 4294967296).toNat = arith .f32 (148 - 146) (a % 4294967296).toNat (b % 4294967296).toNat from mul_comm _ _ _] at h
      exact h
    · have h := binary_32 146 a (bits .xor .u64 (b % 4294967296) 2147483648) w (by decide) (by decide)
      rw [u64_xor _ _ (by omega) (by omega) (by decide) (by decide)] at h ⊢
      rw [show arith .f32 (146 - 146) (a % 4294967296).toNat ((((b % 4294967296).toNat ^^^ (2147483648 : Int).toNat : Nat) : Int) % 4294967296).toNat = arith .f32 (147 - 146) (a % 4294967296).toNat (b % 4294967296).toNat from ?_] at h
      · exact h
      · show FloatKind.f32.format.add _ _ = FloatKind.f32.format.sub _ _
        rw [sub_flip _ _ _ (by rw [show FloatKind.f32.format.signWeight = 2147483648 by decide]; omega)]
        congr 1
        rw [show FloatKind.f32.format.signWeight = 2147483648 by decide, show (2147483648 : Int).toNat = 2147483648 by decide]
        have : (b % 4294967296).toNat ^^^ 2147483648 < 2 ^ 32 := Nat.xor_lt_two_pow (by omega) (by decide)
        omega
  | true =>
    refine law64 a b _ _ _ _ w (fun w => binary_64 160 a b w (by decide) (by decide)) (fun w => ?_) (fun w => binary_64 162 a b w (by decide) (by decide)) (fun w => ?_) (neg_64 b) (fun w => binary_64 161 a b w (by decide) (by decide)) (fun w => ?_)
    · have h := binary_64 160 b a w (by decide) (by decide)
      rw [show arith .f64 (160 - 160) b.toNat a.toNat = arith .f64 (160 - 160) a.toNat b.toNat from add_comm _ _ _] at h
      exact h
    · have h := binary_64 162 b a w (by decide) (by decide)
      rw [show arith .f64 (162 - 160) b.toNat a.toNat = arith .f64 (162 - 160) a.toNat b.toNat from mul_comm _ _ _] at h
      exact h
    · have h := binary_64 160 a (bits .xor .u64 b 9223372036854775808) w (by decide) (by decide)
      rw [u64_xor _ _ (by omega) (by omega) (by decide) (by decide)] at h ⊢
      rw [show arith .f64 (160 - 160) a.toNat (((b.toNat ^^^ (9223372036854775808 : Int).toNat : Nat) : Int)).toNat = arith .f64 (161 - 160) a.toNat b.toNat from ?_] at h
      · exact h
      · show FloatKind.f64.format.add _ _ = FloatKind.f64.format.sub _ _
        rw [sub_flip _ _ _ (by rw [show FloatKind.f64.format.signWeight = 9223372036854775808 by decide]; omega)]
        congr 1
end Go.Proofs.Ytapfapngcncaeaa.FnumTurnsWalk
