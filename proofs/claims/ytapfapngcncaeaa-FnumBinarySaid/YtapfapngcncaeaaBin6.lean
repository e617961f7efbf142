/- What the reference's Binary answers. (Printed by wip/bin6gen.py.) -/
import Derived.Test.YtapfapngcncaeaaBin5
namespace Go.Proofs.Ytapfapngcncaeaa.QF
open Go.RowKit Go.Proofs.Ytapfapngcncaeaa.Ie Go.Proofs.Ytapfapngcncaeaa.Rf Go.Proofs.Ytapfapngcncaeaa.Fl
theorem cmp_lt {a b : Int} (h : a < b) : compare a b = .lt := by unfold compare instOrdInt compareOfLessAndEq; simp only; rw [if_pos h]
theorem cmp_eq {a b : Int} (h : a = b) : compare a b = .eq := by subst h; unfold compare instOrdInt compareOfLessAndEq; simp only; rw [if_neg (by omega), if_pos trivial]
theorem cmp_gt {a b : Int} (h : b < a) : compare a b = .gt := by unfold compare instOrdInt compareOfLessAndEq; simp only; rw [if_neg (by omega), if_neg (by omega)]
theorem read_neg (f : Ieee.Format) (x : Nat) : (f.read x).neg = sgn f x := by
  rw [read_eq]; unfold unword
  split
  · rfl
  · split
    · rfl
    · split <;> rfl

theorem key32 (x : Int) (h0 : 0 ≤ x) (h1 : x < 4294967296) : ratchetref04_Format_key.f 23 8 x = some (key FloatKind.f32.format x.toNat) := by
  unfold ratchetref04_Format_key.f
  rw [below32 x h0 (by omega)]
  simp only [Option.bind_some, size32 x h0 (show x < 18446744073709551616 by omega)]
  unfold key sig
  have hr := rung32 x h0
  have e : ∀ y : Int, 0 ≤ y → y < 9223372036854775808 → wrap64 y = y := fun y a b => by unfold wrap64; omega
  have e2 : ∀ y : Int, 0 ≤ y → y < 9223372036854775808 → wrap64 (-y) = -y := fun y a b => by unfold wrap64; omega
  cases sgn FloatKind.f32.format x.toNat
  · simp only [Bool.false_eq_true, if_false, Option.some.injEq]
    rw [e (x % 2147483648) (by omega) (by omega)]; omega
  · simp only [if_true, Option.some.injEq]
    rw [e (x % 2147483648) (by omega) (by omega), e2 (x % 2147483648) (by omega) (by omega)]; omega
theorem ov_self_32 {X : Nat} (hx : rung FloatKind.f32.format X ≤ FloatKind.f32.format.infRung) : outv .f32 (some X) = (X : Int) := by
  show (if isNum .f32 X = true then _ else _) = _
  rw [if_pos ((isNum_iff_32 X).2 hx)]
theorem least_val_32 (m : Bool) (X Y : Nat) (hX : X < 4294967296) (hY : Y < 4294967296) (hx : rung FloatKind.f32.format X ≤ FloatKind.f32.format.infRung) (hy : rung FloatKind.f32.format Y ≤ FloatKind.f32.format.infRung) :
    leastV (key FloatKind.f32.format X == key FloatKind.f32.format Y) (decide (key FloatKind.f32.format X < key FloatKind.f32.format Y)) m X Y = outv .f32 (if m = true then maxF FloatKind.f32.format X Y else minF FloatKind.f32.format X Y) := by
  have c1 := self_32 X hX
  have c2 := self_32 Y hY
  unfold minF maxF
  rw [order_key _ (by decide) X Y hx hy, read_neg]
  rcases Int.lt_trichotomy (key FloatKind.f32.format X) (key FloatKind.f32.format Y) with h | h | h
  · rw [cmp_lt h, show (key FloatKind.f32.format X == key FloatKind.f32.format Y) = false by simp; omega, decide_eq_true h]
    cases m
    · exact (ov_self_32 hx).symm
    · exact (ov_self_32 hy).symm
  · rw [cmp_eq h, h, show (key FloatKind.f32.format Y == key FloatKind.f32.format Y) = true by simp]
    by_cases s : sgn FloatKind.f32.format X = sgn FloatKind.f32.format Y
    · have e : X = Y := by
        rw [← c1, ← c2, s]
        unfold key sig at h
        rw [s] at h
        congr 1
        split at h <;> omega
      subst e
      cases m
      · show bits .or .u64 (X : Int) (X : Int) = outv .f32 (some (if _ then X else X))
        rw [u64_or_nat X X (by omega) (by omega), Nat.or_self, ite_self, ov_self_32 hx]
      · show bits .and .u64 (X : Int) (X : Int) = outv .f32 (some (if _ then X else X))
        rw [u64_and X X (by omega) (by omega) (by omega) (by omega), Int.toNat_natCast, Nat.and_self, ite_self, ov_self_32 hx]
    · have z : rung FloatKind.f32.format X = 0 ∧ rung FloatKind.f32.format Y = 0 := by
        unfold key sig at h
        cases h1 : sgn FloatKind.f32.format X <;> cases h2 : sgn FloatKind.f32.format Y <;> rw [h1, h2] at s h <;> simp at s h <;> omega
      rw [z.1] at c1
      rw [z.2] at c2
      rw [← c1, ← c2]
      revert s
      generalize sgn FloatKind.f32.format X = sx
      generalize sgn FloatKind.f32.format Y = sy
      intro s
      cases m <;> cases sx <;> cases sy <;> first | exact absurd rfl s | decide
  · rw [cmp_gt h, show (key FloatKind.f32.format X == key FloatKind.f32.format Y) = false by simp; omega, decide_eq_false (by omega)]
    cases m
    · exact (ov_self_32 hy).symm
    · exact (ov_self_32 hx).symm
theorem least_ref_32 (m : Bool) (X Y : Nat) (hX : X < 4294967296) (hY : Y < 4294967296) (hx : rung FloatKind.f32.format X ≤ FloatKind.f32.format.infRung) (hy : rung FloatKind.f32.format Y ≤ FloatKind.f32.format.infRung) (w : World) :
    Calls Try.prog 75 #[.agg #[.int .i64 23, .int .i64 8], .int .u64 X, .int .u64 Y, .bool m] w fun e w' => e = .returned (.int .u64 (outv .f32 (if m = true then maxF FloatKind.f32.format X Y else minF FloatKind.f32.format X Y))) ∧ Below w.heap.size w w' := by
  have k1 := key32 X (by omega) (by omega)
  have k2 := key32 Y (by omega) (by omega)
  rw [Int.toNat_natCast] at k1 k2
  have h := least_calls 23 8 X Y _ _ _ _ m k1 k2 rfl rfl w
  rw [least_val_32 m X Y hX hY hx hy] at h
  exact h
theorem arith_none_32 (n : Int) (X Y : Nat) (h : FloatKind.f32.format.infRung < rung FloatKind.f32.format X ∨ FloatKind.f32.format.infRung < rung FloatKind.f32.format Y) : arith .f32 n X Y = none := by
  have hs : rung FloatKind.f32.format (Y ^^^ FloatKind.f32.format.signWeight) = rung FloatKind.f32.format Y := by
    unfold rung; rw [show FloatKind.f32.format.signWeight = 2 ^ 31 by decide, Nat.xor_mod_two_pow, Nat.mod_self, Nat.xor_zero]
  have ho := order_nan FloatKind.f32.format (by decide) X Y h
  have hb : FloatKind.f32.format.add X Y = none ∧ FloatKind.f32.format.sub X Y = none ∧ FloatKind.f32.format.mul X Y = none ∧ FloatKind.f32.format.div X Y = none := by
    rcases h with h | h
    · obtain ⟨s, t, e⟩ := read_nanD FloatKind.f32.format (by decide) X h
      refine ⟨add_nl e, ?_, mul_nl e, div_nl e⟩
      unfold Ieee.Format.sub; rw [e]; cases (FloatKind.f32.format.read Y).opposite <;> rfl
    · obtain ⟨s, t, e⟩ := read_nanD FloatKind.f32.format (by decide) Y h
      refine ⟨add_nr e, ?_, mul_nr e, div_nr e⟩
      unfold Ieee.Format.sub; rw [e]; cases FloatKind.f32.format.read X <;> rfl
  unfold arith minF maxF
  rw [ho, hb.1, hb.2.1, hb.2.2.1, hb.2.2.2]
  repeat' (first | rfl | split)

theorem meth_32 (op a b : Int) (X Y : Nat) (h0 : 0 ≤ op) (h6 : op < 6) (hX : X < 4294967296) (hY : Y < 4294967296) (ca : ratchetref04_Format_cut.f 23 8 a = some (X : Int)) (cb : ratchetref04_Format_cut.f 23 8 b = some (Y : Int)) (w : World) :
    Calls Try.prog 53 #[.agg #[.int .i64 23, .int .i64 8], .int .i64 op, .int .u64 a, .int .u64 b] w fun e w' => e = .returned (.int .u64 (outv .f32 (arith .f32 op X Y))) ∧ Below w.heap.size w w' := by
  have n1 := isNan32 X (by omega) (by omega)
  have n2 := isNan32 Y (by omega) (by omega)
  rw [Int.toNat_natCast] at n1 n2
  by_cases hn : FloatKind.f32.format.infRung < rung FloatKind.f32.format X ∨ FloatKind.f32.format.infRung < rung FloatKind.f32.format Y
  · rw [arith_none_32 op X Y hn]
    exact bin_nan op 23 8 a b X Y _ _ _ (by simp; omega) ca cb n1 n2 nan32 (by simpa using hn) w
  · have hx : rung FloatKind.f32.format X ≤ FloatKind.f32.format.infRung := by omega
    have hy : rung FloatKind.f32.format Y ≤ FloatKind.f32.format.infRung := by omega
    rw [decide_eq_false (by omega)] at n1 n2
    have ho : op = 0 ∨ op = 1 ∨ op = 2 ∨ op = 3 ∨ op = 4 ∨ op = 5 := by omega
    rcases ho with rfl | rfl | rfl | rfl | rfl | rfl
    · exact bin_0 23 8 a b X Y _ ca cb n1 n2 (fun w => add_ref_32 1000 (by decide) X Y hX hY hx hy w) w
    · have hf := sub_flip FloatKind.f32.format X Y (by rw [sw_32]; omega)
      have hlt : Y ^^^ 2147483648 < 4294967296 := Nat.xor_lt_two_pow (n := 32) (by omega) (by decide)
      have hr : rung FloatKind.f32.format (Y ^^^ FloatKind.f32.format.signWeight) = rung FloatKind.f32.format Y := by
        unfold rung; rw [show FloatKind.f32.format.signWeight = 2 ^ 31 by decide, Nat.xor_mod_two_pow, Nat.mod_self, Nat.xor_zero]
      rw [sw_32] at hf hr
      refine bin_1 23 8 a b X Y 2147483648 _ ca cb n1 n2 sign32 (fun w => ?_) w
      rw [show arith .f32 1 X Y = FloatKind.f32.format.sub X Y from rfl, hf, show bits .xor .u64 (Y : Int) 2147483648 = ((Y ^^^ 2147483648 : Nat) : Int) from u64_xor_nat Y 2147483648 (by omega) (by decide)]
      exact add_ref_32 1000 (by decide) X (Y ^^^ 2147483648) hX hlt hx (by rw [hr]; exact hy) w
    · exact bin_2 23 8 a b X Y _ ca cb n1 n2 (fun w => mul_ref_32 1000 (by decide) X Y hX hY hx hy w) w
    · exact bin_3 23 8 a b X Y _ ca cb n1 n2 (fun w => div_ref_32 1000 (by decide) X Y hX hY hx hy w) w
    · exact bin_4 23 8 a b X Y _ ca cb n1 n2 (fun w => least_ref_32 false X Y hX hY hx hy w) w
    · exact bin_5 23 8 a b X Y _ ca cb n1 n2 (fun w => least_ref_32 true X Y hX hY hx hy w) w

theorem key64 (x : Int) (h0 : 0 ≤ x) (h1 : x < 18446744073709551616) : ratchetref04_Format_key.f 52 11 x = some (key FloatKind.f64.format x.toNat) := by
  unfold ratchetref04_Format_key.f
  rw [below64 x h0 (by omega)]
  simp only [Option.bind_some, size64 x h0 (show x < 18446744073709551616 by omega)]
  unfold key sig
  have hr := rung64 x h0
  have e : ∀ y : Int, 0 ≤ y → y < 9223372036854775808 → wrap64 y = y := fun y a b => by unfold wrap64; omega
  have e2 : ∀ y : Int, 0 ≤ y → y < 9223372036854775808 → wrap64 (-y) = -y := fun y a b => by unfold wrap64; omega
  cases sgn FloatKind.f64.format x.toNat
  · simp only [Bool.false_eq_true, if_false, Option.some.injEq]
    rw [e (x % 9223372036854775808) (by omega) (by omega)]; omega
  · simp only [if_true, Option.some.injEq]
    rw [e (x % 9223372036854775808) (by omega) (by omega), e2 (x % 9223372036854775808) (by omega) (by omega)]; omega
theorem ov_self_64 {X : Nat} (hx : rung FloatKind.f64.format X ≤ FloatKind.f64.format.infRung) : outv .f64 (some X) = (X : Int) := by
  show (if isNum .f64 X = true then _ else _) = _
  rw [if_pos ((isNum_iff_64 X).2 hx)]
theorem least_val_64 (m : Bool) (X Y : Nat) (hX : X < 18446744073709551616) (hY : Y < 18446744073709551616) (hx : rung FloatKind.f64.format X ≤ FloatKind.f64.format.infRung) (hy : rung FloatKind.f64.format Y ≤ FloatKind.f64.format.infRung) :
    leastV (key FloatKind.f64.format X == key FloatKind.f64.format Y) (decide (key FloatKind.f64.format X < key FloatKind.f64.format Y)) m X Y = outv .f64 (if m = true then maxF FloatKind.f64.format X Y else minF FloatKind.f64.format X Y) := by
  have c1 := self_64 X hX
  have c2 := self_64 Y hY
  unfold minF maxF
  rw [order_key _ (by decide) X Y hx hy, read_neg]
  rcases Int.lt_trichotomy (key FloatKind.f64.format X) (key FloatKind.f64.format Y) with h | h | h
  · rw [cmp_lt h, show (key FloatKind.f64.format X == key FloatKind.f64.format Y) = false by simp; omega, decide_eq_true h]
    cases m
    · exact (ov_self_64 hx).symm
    · exact (ov_self_64 hy).symm
  · rw [cmp_eq h, h, show (key FloatKind.f64.format Y == key FloatKind.f64.format Y) = true by simp]
    by_cases s : sgn FloatKind.f64.format X = sgn FloatKind.f64.format Y
    · have e : X = Y := by
        rw [← c1, ← c2, s]
        unfold key sig at h
        rw [s] at h
        congr 1
        split at h <;> omega
      subst e
      cases m
      · show bits .or .u64 (X : Int) (X : Int) = outv .f64 (some (if _ then X else X))
        rw [u64_or_nat X X (by omega) (by omega), Nat.or_self, ite_self, ov_self_64 hx]
      · show bits .and .u64 (X : Int) (X : Int) = outv .f64 (some (if _ then X else X))
        rw [u64_and X X (by omega) (by omega) (by omega) (by omega), Int.toNat_natCast, Nat.and_self, ite_self, ov_self_64 hx]
    · have z : rung FloatKind.f64.format X = 0 ∧ rung FloatKind.f64.format Y = 0 := by
        unfold key sig at h
        cases h1 : sgn FloatKind.f64.format X <;> cases h2 : sgn FloatKind.f64.format Y <;> rw [h1, h2] at s h <;> simp at s h <;> omega
      rw [z.1] at c1
      rw [z.2] at c2
      rw [← c1, ← c2]
      revert s
      generalize sgn FloatKind.f64.format X = sx
      generalize sgn FloatKind.f64.format Y = sy
      intro s
      cases m <;> cases sx <;> cases sy <;> first | exact absurd rfl s | decide
  · rw [cmp_gt h, show (key FloatKind.f64.format X == key FloatKind.f64.format Y) = false by simp; omega, decide_eq_false (by omega)]
    cases m
    · exact (ov_self_64 hy).symm
    · exact (ov_self_64 hx).symm
theorem least_ref_64 (m : Bool) (X Y : Nat) (hX : X < 18446744073709551616) (hY : Y < 18446744073709551616) (hx : rung FloatKind.f64.format X ≤ FloatKind.f64.format.infRung) (hy : rung FloatKind.f64.format Y ≤ FloatKind.f64.format.infRung) (w : World) :
    Calls Try.prog 75 #[.agg #[.int .i64 52, .int .i64 11], .int .u64 X, .int .u64 Y, .bool m] w fun e w' => e = .returned (.int .u64 (outv .f64 (if m = true then maxF FloatKind.f64.format X Y else minF FloatKind.f64.format X Y))) ∧ Below w.heap.size w w' := by
  have k1 := key64 X (by omega) (by omega)
  have k2 := key64 Y (by omega) (by omega)
  rw [Int.toNat_natCast] at k1 k2
  have h := least_calls 52 11 X Y _ _ _ _ m k1 k2 rfl rfl w
  rw [least_val_64 m X Y hX hY hx hy] at h
  exact h
theorem arith_none_64 (n : Int) (X Y : Nat) (h : FloatKind.f64.format.infRung < rung FloatKind.f64.format X ∨ FloatKind.f64.format.infRung < rung FloatKind.f64.format Y) : arith .f64 n X Y = none := by
  have hs : rung FloatKind.f64.format (Y ^^^ FloatKind.f64.format.signWeight) = rung FloatKind.f64.format Y := by
    unfold rung; rw [show FloatKind.f64.format.signWeight = 2 ^ 63 by decide, Nat.xor_mod_two_pow, Nat.mod_self, Nat.xor_zero]
  have ho := order_nan FloatKind.f64.format (by decide) X Y h
  have hb : FloatKind.f64.format.add X Y = none ∧ FloatKind.f64.format.sub X Y = none ∧ FloatKind.f64.format.mul X Y = none ∧ FloatKind.f64.format.div X Y = none := by
    rcases h with h | h
    · obtain ⟨s, t, e⟩ := read_nanD FloatKind.f64.format (by decide) X h
      refine ⟨add_nl e, ?_, mul_nl e, div_nl e⟩
      unfold Ieee.Format.sub; rw [e]; cases (FloatKind.f64.format.read Y).opposite <;> rfl
    · obtain ⟨s, t, e⟩ := read_nanD FloatKind.f64.format (by decide) Y h
      refine ⟨add_nr e, ?_, mul_nr e, div_nr e⟩
      unfold Ieee.Format.sub; rw [e]; cases FloatKind.f64.format.read X <;> rfl
  unfold arith minF maxF
  rw [ho, hb.1, hb.2.1, hb.2.2.1, hb.2.2.2]
  repeat' (first | rfl | split)

theorem meth_64 (op a b : Int) (X Y : Nat) (h0 : 0 ≤ op) (h6 : op < 6) (hX : X < 18446744073709551616) (hY : Y < 18446744073709551616) (ca : ratchetref04_Format_cut.f 52 11 a = some (X : Int)) (cb : ratchetref04_Format_cut.f 52 11 b = some (Y : Int)) (w : World) :
    Calls Try.prog 53 #[.agg #[.int .i64 52, .int .i64 11], .int .i64 op, .int .u64 a, .int .u64 b] w fun e w' => e = .returned (.int .u64 (outv .f64 (arith .f64 op X Y))) ∧ Below w.heap.size w w' := by
  have n1 := isNan64 X (by omega) (by omega)
  have n2 := isNan64 Y (by omega) (by omega)
  rw [Int.toNat_natCast] at n1 n2
  by_cases hn : FloatKind.f64.format.infRung < rung FloatKind.f64.format X ∨ FloatKind.f64.format.infRung < rung FloatKind.f64.format Y
  · rw [arith_none_64 op X Y hn]
    exact bin_nan op 52 11 a b X Y _ _ _ (by simp; omega) ca cb n1 n2 nan64 (by simpa using hn) w
  · have hx : rung FloatKind.f64.format X ≤ FloatKind.f64.format.infRung := by omega
    have hy : rung FloatKind.f64.format Y ≤ FloatKind.f64.format.infRung := by omega
    rw [decide_eq_false (by omega)] at n1 n2
    have ho : op = 0 ∨ op = 1 ∨ op = 2 ∨ op = 3 ∨ op = 4 ∨ op = 5 := by omega
    rcases ho with rfl | rfl | rfl | rfl | rfl | rfl
    · exact bin_0 52 11 a b X Y _ ca cb n1 n2 (fun w => add_ref_64 1000 (by decide) X Y hX hY hx hy w) w
    · have hf := sub_flip FloatKind.f64.format X Y (by rw [sw_64]; omega)
      have hlt : Y ^^^ 9223372036854775808 < 18446744073709551616 := Nat.xor_lt_two_pow (n := 64) (by omega) (by decide)
      have hr : rung FloatKind.f64.format (Y ^^^ FloatKind.f64.format.signWeight) = rung FloatKind.f64.format Y := by
        unfold rung; rw [show FloatKind.f64.format.signWeight = 2 ^ 63 by decide, Nat.xor_mod_two_pow, Nat.mod_self, Nat.xor_zero]
      rw [sw_64] at hf hr
      refine bin_1 52 11 a b X Y 9223372036854775808 _ ca cb n1 n2 sign64 (fun w => ?_) w
      rw [show arith .f64 1 X Y = FloatKind.f64.format.sub X Y from rfl, hf, show bits .xor .u64 (Y : Int) 9223372036854775808 = ((Y ^^^ 9223372036854775808 : Nat) : Int) from u64_xor_nat Y 9223372036854775808 (by omega) (by decide)]
      exact add_ref_64 1000 (by decide) X (Y ^^^ 9223372036854775808) hX hlt hx (by rw [hr]; exact hy) w
    · exact bin_2 52 11 a b X Y _ ca cb n1 n2 (fun w => mul_ref_64 1000 (by decide) X Y hX hY hx hy w) w
    · exact bin_3 52 11 a b X Y _ ca cb n1 n2 (fun w => div_ref_64 1000 (by decide) X Y hX hY hx hy w) w
    · exact bin_4 52 11 a b X Y _ ca cb n1 n2 (fun w => least_ref_64 false X Y hX hY hx hy w) w
    · exact bin_5 52 11 a b X Y _ ca cb n1 n2 (fun w => least_ref_64 true X Y hX hY hx hy w) w
end Go.Proofs.Ytapfapngcncaeaa.QF
