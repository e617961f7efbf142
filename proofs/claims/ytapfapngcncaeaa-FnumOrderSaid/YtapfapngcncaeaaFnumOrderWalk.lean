/- The walk of ratchetlaw04.FnumOrder and its plain law. -/
import Derived.Test.YtapfapngcncaeaaFl5
namespace Go.Proofs.Ytapfapngcncaeaa.FnumOrderWalk
open Go.RowKit Go.Proofs.Ytapfapngcncaeaa.Fl Go.Proofs.Ytapfapngcncaeaa.Ie


set_option maxRecDepth 100000 in
theorem law32_nan (a b : Int) (p q pp qq : Bool) (hpq : (p || q) = true) (w : World)
    (h1 : ∀ w : World, Calls Try.prog 14 #[.int .i64 32, .int .u64 a] w fun r w' => r = .returned (.tuple #[.bool p, .bool pp, .int .i64 0]) ∧ w' = w)
    (h2 : ∀ w : World, Calls Try.prog 14 #[.int .i64 32, .int .u64 b] w fun r w' => r = .returned (.tuple #[.bool q, .bool qq, .int .i64 0]) ∧ w' = w)
    (h3 : ∀ w : World, Calls Try.prog 27 #[.int .i64 91, .int .u64 a, .int .u64 b] w fun r w' => r = .returned (.tuple #[.int .u64 0, .int .i64 0]) ∧ Below w.heap.size w w')
    (h4 : ∀ w : World, Calls Try.prog 27 #[.int .i64 93, .int .u64 a, .int .u64 b] w fun r w' => r = .returned (.tuple #[.int .u64 0, .int .i64 0]) ∧ Below w.heap.size w w')
    (h5 : ∀ w : World, Calls Try.prog 27 #[.int .i64 94, .int .u64 a, .int .u64 b] w fun r w' => r = .returned (.tuple #[.int .u64 0, .int .i64 0]) ∧ Below w.heap.size w w') :
    Calls Try.prog 8 #[.int .u64 a, .int .u64 b, .bool false] w fun r w' => r = .returned (.bool true) ∧ Below w.heap.size w w' := by
  have H1 := Lib.hid h1
  have H2 := Lib.hid h2
  have H3 := Lib.hid h3
  have H4 := Lib.hid h4
  have H5 := Lib.hid h5
  clear h1 h2 h3 h4 h5
  cases p <;> cases q <;> first | (exfalso; revert hpq; decide) | skip
  all_goals
    clear hpq
    go_enter Try.func8, Try.ntmps8
    go_wp2_with fail
    refine (alive_calls _).mono ?_; rintro r w0 ⟨rfl, hb0⟩
    go_wp2_with fail
    refine (H1.out _).mono ?_; rintro r w' ⟨rfl, rfl⟩
    go_wp2_with fail
    refine (H2.out _).mono ?_; rintro r w' ⟨rfl, rfl⟩
    go_wp2_with fail
    refine (H3.out _).mono ?_; rintro r w3 ⟨rfl, hb3⟩
    go_wp2_with fail
    refine (H4.out _).mono ?_; rintro r w4 ⟨rfl, hb4⟩
    go_wp2_with fail
    refine (H5.out _).mono ?_; rintro r w5 ⟨rfl, hb5⟩
    go_wp2_with fail
    go_ret
    have s0 := hb0.size
    have s3 := hb3.size
    have s4 := hb4.size
    exact ⟨rfl, (((hb0.trans (hb3.mono (by omega))).trans (hb4.mono (by omega))).trans (hb5.mono (by omega)))⟩

set_option maxRecDepth 100000 in
theorem law32 (a b : Int) (pp qq : Bool) (eq lt gt lo hi : Int) (hc : (eq = 1 ∧ lt = 0 ∧ gt = 0) ∨ (eq = 0 ∧ lt = 1 ∧ gt = 0) ∨ (eq = 0 ∧ lt = 0 ∧ gt = 1)) (w : World)
    (h1 : ∀ w : World, Calls Try.prog 14 #[.int .i64 32, .int .u64 a] w fun r w' => r = .returned (.tuple #[.bool false, .bool pp, .int .i64 0]) ∧ w' = w)
    (h2 : ∀ w : World, Calls Try.prog 14 #[.int .i64 32, .int .u64 b] w fun r w' => r = .returned (.tuple #[.bool false, .bool qq, .int .i64 0]) ∧ w' = w)
    (h3 : ∀ w : World, Calls Try.prog 27 #[.int .i64 91, .int .u64 a, .int .u64 b] w fun r w' => r = .returned (.tuple #[.int .u64 eq, .int .i64 0]) ∧ Below w.heap.size w w')
    (h4 : ∀ w : World, Calls Try.prog 27 #[.int .i64 93, .int .u64 a, .int .u64 b] w fun r w' => r = .returned (.tuple #[.int .u64 lt, .int .i64 0]) ∧ Below w.heap.size w w')
    (h5 : ∀ w : World, Calls Try.prog 27 #[.int .i64 94, .int .u64 a, .int .u64 b] w fun r w' => r = .returned (.tuple #[.int .u64 gt, .int .i64 0]) ∧ Below w.heap.size w w')
    (h6 : ∀ w : World, Calls Try.prog 29 #[.int .i64 150, .int .u64 a, .int .u64 b] w fun r w' => r = .returned (.tuple #[.int .u64 lo, .int .i64 0]) ∧ Below w.heap.size w w')
    (h7 : ∀ w : World, Calls Try.prog 29 #[.int .i64 151, .int .u64 a, .int .u64 b] w fun r w' => r = .returned (.tuple #[.int .u64 hi, .int .i64 0]) ∧ Below w.heap.size w w')
    (h8 : ∀ w : World, Calls Try.prog 27 #[.int .i64 95, .int .u64 lo, .int .u64 hi] w fun r w' => r = .returned (.tuple #[.int .u64 1, .int .i64 0]) ∧ Below w.heap.size w w') :
    Calls Try.prog 8 #[.int .u64 a, .int .u64 b, .bool false] w fun r w' => r = .returned (.bool true) ∧ Below w.heap.size w w' := by
  have H1 := Lib.hid h1
  have H2 := Lib.hid h2
  have H3 := Lib.hid h3
  have H4 := Lib.hid h4
  have H5 := Lib.hid h5
  have H6 := Lib.hid h6
  have H7 := Lib.hid h7
  have H8 := Lib.hid h8
  clear h1 h2 h3 h4 h5 h6 h7 h8
  rcases hc with ⟨rfl, rfl, rfl⟩ | ⟨rfl, rfl, rfl⟩ | ⟨rfl, rfl, rfl⟩
  all_goals
    go_enter Try.func8, Try.ntmps8
    go_wp2_with fail
    refine (alive_calls _).mono ?_; rintro r w0 ⟨rfl, hb0⟩
    go_wp2_with fail
    refine (H1.out _).mono ?_; rintro r w' ⟨rfl, rfl⟩
    go_wp2_with fail
    refine (H2.out _).mono ?_; rintro r w' ⟨rfl, rfl⟩
    go_wp2_with fail
    refine (H3.out _).mono ?_; rintro r w3 ⟨rfl, hb3⟩
    go_wp2_with fail
    refine (H4.out _).mono ?_; rintro r w4 ⟨rfl, hb4⟩
    go_wp2_with fail
    refine (H5.out _).mono ?_; rintro r w5 ⟨rfl, hb5⟩
    go_wp2_with fail
    refine (H6.out _).mono ?_; rintro r w6 ⟨rfl, hb6⟩
    go_wp2_with fail
    refine (H7.out _).mono ?_; rintro r w7 ⟨rfl, hb7⟩
    go_wp2_with fail
    refine (H8.out _).mono ?_; rintro r w8 ⟨rfl, hb8⟩
    go_wp2_with fail
    go_ret
    have s0 := hb0.size
    have s3 := hb3.size
    have s4 := hb4.size
    have s5 := hb5.size
    have s6 := hb6.size
    have s7 := hb7.size
    exact ⟨rfl, ((((((hb0.trans (hb3.mono (by omega))).trans (hb4.mono (by omega))).trans (hb5.mono (by omega))).trans (hb6.mono (by omega))).trans (hb7.mono (by omega))).trans (hb8.mono (by omega)))⟩


set_option maxRecDepth 100000 in
theorem law64_nan (a b : Int) (p q pp qq : Bool) (hpq : (p || q) = true) (w : World)
    (h1 : ∀ w : World, Calls Try.prog 14 #[.int .i64 64, .int .u64 a] w fun r w' => r = .returned (.tuple #[.bool p, .bool pp, .int .i64 0]) ∧ w' = w)
    (h2 : ∀ w : World, Calls Try.prog 14 #[.int .i64 64, .int .u64 b] w fun r w' => r = .returned (.tuple #[.bool q, .bool qq, .int .i64 0]) ∧ w' = w)
    (h3 : ∀ w : World, Calls Try.prog 27 #[.int .i64 97, .int .u64 a, .int .u64 b] w fun r w' => r = .returned (.tuple #[.int .u64 0, .int .i64 0]) ∧ Below w.heap.size w w')
    (h4 : ∀ w : World, Calls Try.prog 27 #[.int .i64 99, .int .u64 a, .int .u64 b] w fun r w' => r = .returned (.tuple #[.int .u64 0, .int .i64 0]) ∧ Below w.heap.size w w')
    (h5 : ∀ w : World, Calls Try.prog 27 #[.int .i64 100, .int .u64 a, .int .u64 b] w fun r w' => r = .returned (.tuple #[.int .u64 0, .int .i64 0]) ∧ Below w.heap.size w w') :
    Calls Try.prog 8 #[.int .u64 a, .int .u64 b, .bool true] w fun r w' => r = .returned (.bool true) ∧ Below w.heap.size w w' := by
  have H1 := Lib.hid h1
  have H2 := Lib.hid h2
  have H3 := Lib.hid h3
  have H4 := Lib.hid h4
  have H5 := Lib.hid h5
  clear h1 h2 h3 h4 h5
  cases p <;> cases q <;> first | (exfalso; revert hpq; decide) | skip
  all_goals
    clear hpq
    go_enter Try.func8, Try.ntmps8
    go_wp2_with fail
    refine (alive_calls _).mono ?_; rintro r w0 ⟨rfl, hb0⟩
    go_wp2_with fail
    refine (H1.out _).mono ?_; rintro r w' ⟨rfl, rfl⟩
    go_wp2_with fail
    refine (H2.out _).mono ?_; rintro r w' ⟨rfl, rfl⟩
    go_wp2_with fail
    refine (H3.out _).mono ?_; rintro r w3 ⟨rfl, hb3⟩
    go_wp2_with fail
    refine (H4.out _).mono ?_; rintro r w4 ⟨rfl, hb4⟩
    go_wp2_with fail
    refine (H5.out _).mono ?_; rintro r w5 ⟨rfl, hb5⟩
    go_wp2_with fail
    go_ret
    have s0 := hb0.size
    have s3 := hb3.size
    have s4 := hb4.size
    exact ⟨rfl, (((hb0.trans (hb3.mono (by omega))).trans (hb4.mono (by omega))).trans (hb5.mono (by omega)))⟩

set_option maxRecDepth 100000 in
theorem law64 (a b : Int) (pp qq : Bool) (eq lt gt lo hi : Int) (hc : (eq = 1 ∧ lt = 0 ∧ gt = 0) ∨ (eq = 0 ∧ lt = 1 ∧ gt = 0) ∨ (eq = 0 ∧ lt = 0 ∧ gt = 1)) (w : World)
    (h1 : ∀ w : World, Calls Try.prog 14 #[.int .i64 64, .int .u64 a] w fun r w' => r = .returned (.tuple #[.bool false, .bool pp, .int .i64 0]) ∧ w' = w)
    (h2 : ∀ w : World, Calls Try.prog 14 #[.int .i64 64, .int .u64 b] w fun r w' => r = .returned (.tuple #[.bool false, .bool qq, .int .i64 0]) ∧ w' = w)
    (h3 : ∀ w : World, Calls Try.prog 27 #[.int .i64 97, .int .u64 a, .int .u64 b] w fun r w' => r = .returned (.tuple #[.int .u64 eq, .int .i64 0]) ∧ Below w.heap.size w w')
    (h4 : ∀ w : World, Calls Try.prog 27 #[.int .i64 99, .int .u64 a, .int .u64 b] w fun r w' => r = .returned (.tuple #[.int .u64 lt, .int .i64 0]) ∧ Below w.heap.size w w')
    (h5 : ∀ w : World, Calls Try.prog 27 #[.int .i64 100, .int .u64 a, .int .u64 b] w fun r w' => r = .returned (.tuple #[.int .u64 gt, .int .i64 0]) ∧ Below w.heap.size w w')
    (h6 : ∀ w : World, Calls Try.prog 29 #[.int .i64 164, .int .u64 a, .int .u64 b] w fun r w' => r = .returned (.tuple #[.int .u64 lo, .int .i64 0]) ∧ Below w.heap.size w w')
    (h7 : ∀ w : World, Calls Try.prog 29 #[.int .i64 165, .int .u64 a, .int .u64 b] w fun r w' => r = .returned (.tuple #[.int .u64 hi, .int .i64 0]) ∧ Below w.heap.size w w')
    (h8 : ∀ w : World, Calls Try.prog 27 #[.int .i64 101, .int .u64 lo, .int .u64 hi] w fun r w' => r = .returned (.tuple #[.int .u64 1, .int .i64 0]) ∧ Below w.heap.size w w') :
    Calls Try.prog 8 #[.int .u64 a, .int .u64 b, .bool true] w fun r w' => r = .returned (.bool true) ∧ Below w.heap.size w w' := by
  have H1 := Lib.hid h1
  have H2 := Lib.hid h2
  have H3 := Lib.hid h3
  have H4 := Lib.hid h4
  have H5 := Lib.hid h5
  have H6 := Lib.hid h6
  have H7 := Lib.hid h7
  have H8 := Lib.hid h8
  clear h1 h2 h3 h4 h5 h6 h7 h8
  rcases hc with ⟨rfl, rfl, rfl⟩ | ⟨rfl, rfl, rfl⟩ | ⟨rfl, rfl, rfl⟩
  all_goals
    go_enter Try.func8, Try.ntmps8
    go_wp2_with fail
    refine (alive_calls _).mono ?_; rintro r w0 ⟨rfl, hb0⟩
    go_wp2_with fail
    refine (H1.out _).mono ?_; rintro r w' ⟨rfl, rfl⟩
    go_wp2_with fail
    refine (H2.out _).mono ?_; rintro r w' ⟨rfl, rfl⟩
    go_wp2_with fail
    refine (H3.out _).mono ?_; rintro r w3 ⟨rfl, hb3⟩
    go_wp2_with fail
    refine (H4.out _).mono ?_; rintro r w4 ⟨rfl, hb4⟩
    go_wp2_with fail
    refine (H5.out _).mono ?_; rintro r w5 ⟨rfl, hb5⟩
    go_wp2_with fail
    refine (H6.out _).mono ?_; rintro r w6 ⟨rfl, hb6⟩
    go_wp2_with fail
    refine (H7.out _).mono ?_; rintro r w7 ⟨rfl, hb7⟩
    go_wp2_with fail
    refine (H8.out _).mono ?_; rintro r w8 ⟨rfl, hb8⟩
    go_wp2_with fail
    go_ret
    have s0 := hb0.size
    have s3 := hb3.size
    have s4 := hb4.size
    have s5 := hb5.size
    have s6 := hb6.size
    have s7 := hb7.size
    exact ⟨rfl, ((((((hb0.trans (hb3.mono (by omega))).trans (hb4.mono (by omega))).trans (hb5.mono (by omega))).trans (hb6.mono (by omega))).trans (hb7.mono (by omega))).trans (hb8.mono (by omega)))⟩


theorem num_of (k : FloatKind) (x : Nat) (h : rung k.format x ≤ k.format.infRung) : isNum k x = true := by
  unfold isNum
  rw [order_self_eq _ (by cases k <;> decide)]
  simpa using h

/-- The least and the most of two numbers. -/
theorem least_most (k : FloatKind) (x y : Nat) (hx : rung k.format x ≤ k.format.infRung) (hy : rung k.format y ≤ k.format.infRung) :
    ∃ l h : Nat, (l = x ∨ l = y) ∧ (h = x ∨ h = y) ∧ outv k (minF k.format x y) = l ∧ outv k (maxF k.format x y) = h ∧ cmpB k 4 l h = true := by
  have hf : 1 ≤ k.format.exponentBits := by cases k <;> decide
  have nx := num_of k x hx
  have ny := num_of k y hy
  have o := order_key k.format hf x y hx hy
  have o' := order_key k.format hf y x hy hx
  have ox := order_key k.format hf x x hx hx
  have oy := order_key k.format hf y y hy hy
  rw [Int.compare_eq_ite_lt] at o o'
  unfold cmpB
  simp only [show ¬ ((4 : Int) = 0) by decide, show ¬ ((4 : Int) = 1) by decide, show ¬ ((4 : Int) = 2) by decide, show ¬ ((4 : Int) = 3) by decide, if_false, if_true]
  rcases Int.lt_trichotomy (key k.format x) (key k.format y) with h | h | h
  · rw [if_pos h] at o
    exact ⟨x, y, .inl rfl, .inr rfl, by simp [minF, o, outv, nx], by simp [maxF, o, outv, ny], by rw [o]; rfl⟩
  · have e1 : k.format.order x y = some .eq := by rw [o, h, if_neg (Int.lt_irrefl _), if_neg (Int.lt_irrefl _)]
    have e2 : k.format.order y x = some .eq := by rw [o', h, if_neg (Int.lt_irrefl _), if_neg (Int.lt_irrefl _)]
    by_cases hn : (k.format.read x).neg = true
    · exact ⟨x, y, .inl rfl, .inr rfl, by simp [minF, e1, hn, outv, nx], by simp [maxF, e1, hn, outv, ny], by rw [e1]; rfl⟩
    · exact ⟨y, x, .inr rfl, .inl rfl, by simp [minF, e1, hn, outv, ny], by simp [maxF, e1, hn, outv, nx], by rw [e2]; rfl⟩
  · have h' : ¬ key k.format x < key k.format y := by omega
    rw [if_neg h', if_pos h] at o
    rw [if_pos h] at o'
    exact ⟨y, x, .inr rfl, .inl rfl, by simp [minF, o, outv, ny], by simp [maxF, o, outv, nx], by rw [o']; rfl⟩

/-- Just one of equal, less, greater. -/
theorem one_of (k : FloatKind) (x y : Nat) (hx : rung k.format x ≤ k.format.infRung) (hy : rung k.format y ≤ k.format.infRung) :
    (B01 (cmpB k 0 x y) = 1 ∧ B01 (cmpB k 2 x y) = 0 ∧ B01 (cmpB k 3 x y) = 0) ∨ (B01 (cmpB k 0 x y) = 0 ∧ B01 (cmpB k 2 x y) = 1 ∧ B01 (cmpB k 3 x y) = 0) ∨ (B01 (cmpB k 0 x y) = 0 ∧ B01 (cmpB k 2 x y) = 0 ∧ B01 (cmpB k 3 x y) = 1) := by
  have o := order_key k.format (by cases k <;> decide) x y hx hy
  unfold cmpB
  rw [o]
  cases compare (key k.format x) (key k.format y)
  · exact .inr (.inl ⟨rfl, rfl, rfl⟩)
  · exact .inl ⟨rfl, rfl, rfl⟩
  · exact .inr (.inr ⟨rfl, rfl, rfl⟩)
theorem none_of (k : FloatKind) (x y : Nat) (h : k.format.infRung < rung k.format x ∨ k.format.infRung < rung k.format y) :
    B01 (cmpB k 0 x y) = 0 ∧ B01 (cmpB k 2 x y) = 0 ∧ B01 (cmpB k 3 x y) = 0 := by
  unfold cmpB
  rw [order_nan k.format (by cases k <;> decide) x y h]
  exact ⟨rfl, rfl, rfl⟩
theorem nanB (k : FloatKind) (x : Nat) : (k.format.order x x != some .eq) = decide (k.format.infRung < rung k.format x) := by
  rw [bne, order_self_eq _ (by cases k <;> decide)]
  by_cases h : k.format.infRung < rung k.format x
  · simp [h]
  · simp [h]; omega


theorem walk (a b : Int) (wide : Bool) (w : World) (ha : (Lit.int .u64 a).wf = true) (hb : (Lit.int .u64 b).wf = true) :
    Calls Try.prog 8 #[.int .u64 a, .int .u64 b, .bool wide] w fun r w' => r = .returned (.bool true) ∧ Below w.heap.size w w' := by
  simp [Lit.wf, IntKind.min, IntKind.max, IntKind.signed, IntKind.bits] at ha hb
  have ha0 : 0 ≤ a := ha.1
  have ha1 : a < 18446744073709551616 := by omega
  have hb0 : 0 ≤ b := hb.1
  have hb1 : b < 18446744073709551616 := by omega
  cases wide with
  | false =>
    by_cases hn : FloatKind.f32.format.infRung < rung FloatKind.f32.format (a % 4294967296).toNat ∨ FloatKind.f32.format.infRung < rung FloatKind.f32.format (b % 4294967296).toNat
    · obtain ⟨e0, e2, e3⟩ := none_of .f32 _ _ hn
      refine law32_nan a b _ _ _ _ ?_ w (nan_32 a) (nan_32 b) (fun w => ?_) (fun w => ?_) (fun w => ?_)
      · rw [nanB, nanB]; simpa using hn
      · have h := compare_32 91 a b w (by decide) (by decide)
        rw [show ((91 : Int) - 91) = 0 by decide, e0] at h; exact h
      · have h := compare_32 93 a b w (by decide) (by decide)
        rw [show ((93 : Int) - 91) = 2 by decide, e2] at h; exact h
      · have h := compare_32 94 a b w (by decide) (by decide)
        rw [show ((94 : Int) - 91) = 3 by decide, e3] at h; exact h
    · have hx : rung FloatKind.f32.format (a % 4294967296).toNat ≤ FloatKind.f32.format.infRung := by omega
      have hy : rung FloatKind.f32.format (b % 4294967296).toNat ≤ FloatKind.f32.format.infRung := by omega
      obtain ⟨l, h, hl, hh, el, eh, ec⟩ := least_most .f32 _ _ hx hy
      refine law32 a b (bits .and .u64 a 2147483647 == 2143289344) (bits .and .u64 b 2147483647 == 2143289344) _ _ _ l h (one_of .f32 _ _ hx hy) w (fun w => ?_) (fun w => ?_) (fun w => compare_32 91 a b w (by decide) (by decide)) (fun w => compare_32 93 a b w (by decide) (by decide)) (fun w => compare_32 94 a b w (by decide) (by decide)) (fun w => ?_) (fun w => ?_) (fun w => ?_)
      · have g := nan_32 a w
        rw [nanB, show decide (FloatKind.f32.format.infRung < rung FloatKind.f32.format (a % 4294967296).toNat) = false by simpa using hx] at g; exact g
      · have g := nan_32 b w
        rw [nanB, show decide (FloatKind.f32.format.infRung < rung FloatKind.f32.format (b % 4294967296).toNat) = false by simpa using hy] at g; exact g
      · have g := binary_32 150 a b w (by decide) (by decide)
        rw [show arith .f32 (150 - 146) (a % 4294967296).toNat (b % 4294967296).toNat = minF FloatKind.f32.format (a % 4294967296).toNat (b % 4294967296).toNat from rfl, el] at g; exact g
      · have g := binary_32 151 a b w (by decide) (by decide)
        rw [show arith .f32 (151 - 146) (a % 4294967296).toNat (b % 4294967296).toNat = maxF FloatKind.f32.format (a % 4294967296).toNat (b % 4294967296).toNat from rfl, eh] at g; exact g
      · have g := compare_32 95 l h w (by decide) (by decide)
        rw [show ((l : Int) % 4294967296).toNat = l by omega, show ((h : Int) % 4294967296).toNat = h by omega, show ((95 : Int) - 91) = 4 by decide, ec] at g; exact g
  | true =>
    by_cases hn : FloatKind.f64.format.infRung < rung FloatKind.f64.format a.toNat ∨ FloatKind.f64.format.infRung < rung FloatKind.f64.format b.toNat
    · obtain ⟨e0, e2, e3⟩ := none_of .f64 _ _ hn
      refine law64_nan a b _ _ _ _ ?_ w (nan_64 a) (nan_64 b) (fun w => ?_) (fun w => ?_) (fun w => ?_)
      · rw [nanB, nanB]; simpa using hn
      · have h := compare_64 97 a b w (by decide) (by decide)
        rw [show ((97 : Int) - 97) = 0 by decide, e0] at h; exact h
      · have h := compare_64 99 a b w (by decide) (by decide)
        rw [show ((99 : Int) - 97) = 2 by decide, e2] at h; exact h
      · have h := compare_64 100 a b w (by decide) (by decide)
        rw [show ((100 : Int) - 97) = 3 by decide, e3] at h; exact h
    · have hx : rung FloatKind.f64.format a.toNat ≤ FloatKind.f64.format.infRung := by omega
      have hy : rung FloatKind.f64.format b.toNat ≤ FloatKind.f64.format.infRung := by omega
      obtain ⟨l, h, hl, hh, el, eh, ec⟩ := least_most .f64 _ _ hx hy
      refine law64 a b (bits .and .u64 a 9223372036854775807 == 9221120237041090560) (bits .and .u64 b 9223372036854775807 == 9221120237041090560) _ _ _ l h (one_of .f64 _ _ hx hy) w (fun w => ?_) (fun w => ?_) (fun w => compare_64 97 a b w (by decide) (by decide)) (fun w => compare_64 99 a b w (by decide) (by decide)) (fun w => compare_64 100 a b w (by decide) (by decide)) (fun w => ?_) (fun w => ?_) (fun w => ?_)
      · have g := nan_64 a w
        rw [nanB, show decide (FloatKind.f64.format.infRung < rung FloatKind.f64.format a.toNat) = false by simpa using hx] at g; exact g
      · have g := nan_64 b w
        rw [nanB, show decide (FloatKind.f64.format.infRung < rung FloatKind.f64.format b.toNat) = false by simpa using hy] at g; exact g
      · have g := binary_64 164 a b w (by decide) (by decide)
        rw [show arith .f64 (164 - 160) a.toNat b.toNat = minF FloatKind.f64.format a.toNat b.toNat from rfl, el] at g; exact g
      · have g := binary_64 165 a b w (by decide) (by decide)
        rw [show arith .f64 (165 - 160) a.toNat b.toNat = maxF FloatKind.f64.format a.toNat b.toNat from rfl, eh] at g; exact g
      · have g := compare_64 101 l h w (by decide) (by decide)
        rw [Int.toNat_natCast, Int.toNat_natCast, show ((101 : Int) - 97) = 4 by decide, ec] at g; exact g
end Go.Proofs.Ytapfapngcncaeaa.FnumOrderWalk
