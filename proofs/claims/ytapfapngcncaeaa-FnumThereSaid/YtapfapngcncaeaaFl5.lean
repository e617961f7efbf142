/- Contracts of ratchetlaw04.alive, fnum.signs; the plain facts that addition and multiplication go in either order. -/
import Derived.Test.YtapfapngcncaeaaFl4
import Derived.Test.YtapfapngcncaeaaRf
namespace Go.Proofs.Ytapfapngcncaeaa.Fl
open Go.RowKit Go.Proofs.Ytapfapngcncaeaa.Ie

set_option maxRecDepth 100000 in
theorem alive_calls (w : World) : Calls Try.prog 31 #[] w fun e w' => e = .returned (.bool true) ∧ Below w.heap.size w w' := by
  have h1 := fun w => binary_32 146 1065353216 1065353216 w (by decide) (by decide)
  have h2 := fun w => binary_64 160 4607182418800017408 4607182418800017408 w (by decide) (by decide)
  rw [show outv .f32 (arith .f32 (146 - 146) ((1065353216 : Int) % 4294967296).toNat ((1065353216 : Int) % 4294967296).toNat) = 1073741824 by kernel_rfl] at h1
  rw [show outv .f64 (arith .f64 (160 - 160) (4607182418800017408 : Int).toNat (4607182418800017408 : Int).toNat) = 4611686018427387904 by kernel_rfl] at h2
  have H1 := Lib.hid h1
  have H2 := Lib.hid h2
  clear h1 h2
  go_enter Try.func31, Try.ntmps31
  go_wp2_with (first | ((with_reducible refine (H1.out _).mono ?_); rintro e w1 ⟨rfl, hb1⟩) | ((with_reducible refine (H2.out _).mono ?_); rintro e w2 ⟨rfl, hb2⟩))
  go_ret
  exact ⟨rfl, hb1.trans (hb2.mono hb1.size)⟩

set_option maxRecDepth 100000 in
theorem signs_abs (a s : Int) (w : World) : Calls Try.prog 60 #[.int .i64 0, .int .u64 a, .int .u64 s] w fun e w' => e = .returned (.int .u64 (bits .andNot .u64 a s)) ∧ w' = w := by
  go_enter Try.func60, Try.ntmps60
  go_wp2
  go_ret
  exact ⟨rfl, rfl⟩
set_option maxRecDepth 100000 in
theorem signs_neg (a s : Int) (w : World) : Calls Try.prog 60 #[.int .i64 1, .int .u64 a, .int .u64 s] w fun e w' => e = .returned (.int .u64 (bits .xor .u64 a s)) ∧ w' = w := by
  go_enter Try.func60, Try.ntmps60
  go_wp2
  go_ret
  exact ⟨rfl, rfl⟩
set_option maxRecDepth 100000 in
theorem neg_32 (a : Int) (w : World) : Calls Try.prog 34 #[.int .i64 140, .int .u64 a] w fun e w' => e = .returned (.tuple #[.int .u64 (bits .xor .u64 (a % 4294967296) 2147483648), .int .i64 0]) ∧ Below w.heap.size w w' := by
  go_enter Try.func34, Try.ntmps34
  go_wp2_with (first | (go_at_call 44; refine (table_calls _).mono ?_; rintro e w1 ⟨rfl, hb⟩) | (go_at_call 60; refine (signs_neg _ _ _).mono ?_; rintro e w' ⟨rfl, rfl⟩))
  go_ret2
  exact ⟨rfl, hb.alloc hb.size _⟩
set_option maxRecDepth 100000 in
theorem neg_64 (a : Int) (w : World) : Calls Try.prog 34 #[.int .i64 154, .int .u64 a] w fun e w' => e = .returned (.tuple #[.int .u64 (bits .xor .u64 a 9223372036854775808), .int .i64 0]) ∧ Below w.heap.size w w' := by
  go_enter Try.func34, Try.ntmps34
  go_wp2_with (first | (go_at_call 44; refine (table_calls _).mono ?_; rintro e w1 ⟨rfl, hb⟩) | (go_at_call 60; refine (signs_neg _ _ _).mono ?_; rintro e w' ⟨rfl, rfl⟩))
  go_ret2
  exact ⟨rfl, hb.alloc hb.size _⟩

/-! ### plain -/
open Ieee in
theorem sum_comm (d e : Datum) : d.sum e = e.sum d := by
  cases d with
  | nan => cases e <;> rfl
  | infinity s =>
    cases e with
    | nan => rfl
    | infinity t => simp only [Datum.sum]; by_cases h : s = t
                    · subst h; rfl
                    · rw [if_neg h, if_neg (fun h' => h h'.symm)]
    | number => rfl
  | number s m i =>
    cases e with
    | nan => rfl
    | infinity t => rfl
    | number t n j =>
      simp only [Datum.sum]
      rw [Int.min_comm j i, Int.add_comm (signed t n _), Bool.and_comm t s]
open Ieee in
theorem product_comm (d e : Datum) : d.product e = e.product d := by
  cases d with
  | nan => cases e <;> rfl
  | infinity s =>
    cases e with
    | nan => rfl
    | infinity t => simp only [Datum.product]; rw [Bool.xor_comm]
    | number => rfl
  | number s m i =>
    cases e with
    | nan => rfl
    | infinity t => rfl
    | number t n j =>
      simp only [Datum.product]
      rw [Bool.xor_comm, Nat.mul_comm, Int.add_comm]
theorem add_comm (f : Ieee.Format) (x y : Nat) : f.add x y = f.add y x := by unfold Ieee.Format.add; rw [sum_comm]
theorem mul_comm (f : Ieee.Format) (x y : Nat) : f.mul x y = f.mul y x := by unfold Ieee.Format.mul; rw [product_comm]

theorem xor_bit (i x : Nat) (h : x < 2 ^ (i + 1)) : (x ^^^ 2 ^ i) % 2 ^ i = x % 2 ^ i ∧ (x ^^^ 2 ^ i) / 2 ^ i = 1 - x / 2 ^ i := by
  have hp : 0 < 2 ^ i := Nat.two_pow_pos i
  constructor
  · rw [Nat.xor_mod_two_pow, Nat.mod_self, Nat.xor_zero]
  · rw [Nat.xor_div_two_pow, Nat.div_self hp]
    have : x / 2 ^ i < 2 := by rw [Nat.div_lt_iff_lt_mul hp]; rw [Nat.pow_succ] at h; omega
    generalize x / 2 ^ i = q at this ⊢
    have : q = 0 ∨ q = 1 := by omega
    rcases this with h | h <;> rw [h] <;> rfl

theorem read_flip (f : Ieee.Format) (x : Nat) (h : x < 2 * f.signWeight) : f.read (x ^^^ f.signWeight) = (f.read x).opposite := by
  have hp := sign_pos f
  have e : x < 2 ^ (f.exponentBits + f.fractionBits + 1) := by rw [Nat.pow_succ, Nat.mul_comm]; exact h
  obtain ⟨h1, h2⟩ := xor_bit _ x e
  rw [read_eq, read_eq]
  have r : rung f (x ^^^ f.signWeight) = rung f x := h1
  have s : sgn f (x ^^^ f.signWeight) = !sgn f x := by
    unfold sgn
    rw [show (x ^^^ f.signWeight) / f.signWeight = 1 - x / f.signWeight from h2]
    have : x / f.signWeight < 2 := by rw [Nat.div_lt_iff_lt_mul hp]; exact h
    generalize x / f.signWeight = q at this ⊢
    have : q = 0 ∨ q = 1 := by omega
    rcases this with h | h <;> rw [h] <;> rfl
  rw [r, s]
  unfold unword
  split
  · rfl
  · split
    · rfl
    · split <;> rfl
theorem sub_flip (f : Ieee.Format) (x y : Nat) (h : y < 2 * f.signWeight) : f.sub x y = f.add x (y ^^^ f.signWeight) := by
  unfold Ieee.Format.sub Ieee.Format.add
  rw [read_flip f y h]
end Go.Proofs.Ytapfapngcncaeaa.Fl
