/- A finite float's significand and exponent; the reference's parts; its sums, differences and products of whole numbers. -/
import Derived.Test.YtapfapngcncaeaaQFx5
import Derived.Test.YtapfapngcncaeaaQFx7
import Derived.Test.YtapfapngcncaeaaRound
namespace Go.Proofs.Ytapfapngcncaeaa.Ie
open Ieee
def sgf (f : Format) (r : Nat) : Nat := if r < f.binade then r else f.binade + r % f.binade
def exf (f : Format) (r : Nat) : Nat := if r < f.binade then 0 else r / f.binade - 1
theorem unword_parts (f : Format) (neg : Bool) (r : Nat) (h : r < f.infRung) : unword f neg r = .number neg (sgf f r) (f.leastPlace + exf f r) := by
  unfold unword sgf exf
  by_cases hb : r < f.binade
  · rw [if_pos hb, if_pos hb, if_pos hb]; simp
  · rw [if_neg hb, if_pos h, if_neg hb, if_neg hb]
theorem mag_parts (f : Format) (r : Nat) : mag f r = sgf f r * 2 ^ exf f r := by
  unfold mag sgf exf
  by_cases hb : r < f.binade
  · rw [if_pos hb, if_pos hb, if_pos hb]; simp
  · rw [if_neg hb, if_neg hb, if_neg hb]
theorem sgf_lt (f : Format) (r : Nat) : sgf f r < 2 * f.binade := by
  have := Nat.mod_lt r (binade_pos f)
  unfold sgf; split <;> omega
theorem sgf_ge (f : Format) (r : Nat) (h : 0 < exf f r) : f.binade ≤ sgf f r := by
  unfold exf at h
  unfold sgf; split
  · rename_i hb; rw [if_pos hb] at h; omega
  · omega
theorem exf_mono (f : Format) {r s : Nat} (h : r ≤ s) : exf f r ≤ exf f s := by
  unfold exf
  have := Nat.div_le_div_right (c := f.binade) h
  split <;> split <;> omega
theorem sgf_zero (f : Format) (r : Nat) : sgf f r = 0 ↔ r = 0 := by
  have := binade_pos f
  unfold sgf; split
  · exact Iff.rfl
  · omega
end Go.Proofs.Ytapfapngcncaeaa.Ie
namespace Go.Proofs.Ytapfapngcncaeaa.QF
open Go.RowKit Go.Proofs.YtapfapngcncaeaaW.PrintWords Go.Proofs.YtapfapngcncaeaaW.PrintLast Go.Proofs.YtapfapngcncaeaaW.PrintMore Go.Proofs.Ytapfapngcncaeaa.Ie Go.Proofs.Ytapfapngcncaeaa.Rf

theorem plus_f (A B : Nat) (sa sb : Bool) (h : A + B < 340282366920938463463374607431768211456) :
    ratchetref04_wide_plus.f (hiW A) (loW A) sa (hiW B) (loW B) sb = some (hiW (A + B), loW (A + B), sa || sb) := by
  unfold ratchetref04_wide_plus.f
  simp only [IntKind.wrap_u64]
  by_cases c : (loW A + loW B) % 18446744073709551616 < loW A
  · rw [if_pos c]
    have e1 : ((hiW A + hiW B) % 18446744073709551616 + 1) % 18446744073709551616 = hiW (A + B) := by unfold hiW; unfold loW at c; omega
    have e2 : (loW A + loW B) % 18446744073709551616 = loW (A + B) := by unfold loW; omega
    rw [e1, e2]; cases sa <;> simp
  · rw [if_neg c]
    have e1 : (hiW A + hiW B) % 18446744073709551616 = hiW (A + B) := by unfold hiW; unfold loW at c; omega
    have e2 : (loW A + loW B) % 18446744073709551616 = loW (A + B) := by unfold loW; omega
    rw [e1, e2]; cases sa <;> simp

theorem minus_f (k A B : Nat) (sa sb : Bool) (hA : A < 340282366920938463463374607431768211456) (h : B + sb.toNat ≤ A) :
    ratchetref04_wide_minus.f (k + 1) (hiW A) (loW A) sa (hiW B) (loW B) sb = some (hiW (A - B - sb.toNat), loW (A - B - sb.toNat), sa || sb) := by
  have hj : ∀ D : Nat, D = A - B → ratchetref04_wide_minus.j0 (k + 1) (loW D) (hiW D) (hiW A) (loW A) sa (hiW B) (loW B) sb = some (hiW (A - B - sb.toNat), loW (A - B - sb.toNat), sa || sb) := by
    intro D hD
    rw [ratchetref04_wide_minus.j0]
    simp only [IntKind.wrap_u64]
    rw [← hD]
    cases sb with
    | false =>
      rw [if_neg (by decide), show D - Bool.toNat false = D from rfl]
      cases sa <;> simp
    | true =>
      rw [if_pos rfl]
      have hb1 : Bool.toNat true = 1 := rfl
      rw [hb1] at h ⊢
      by_cases c : loW D = 0
      · rw [if_pos c]
        have e1 : (hiW D - 1) % 18446744073709551616 = hiW (D - 1) := by unfold hiW; unfold loW at c; omega
        have e2 : (loW D - 1) % 18446744073709551616 = loW (D - 1) := by unfold loW at c ⊢; omega
        rw [e1, e2]; cases sa <;> simp
      · rw [if_neg c]
        have e1 : hiW D = hiW (D - 1) := by unfold hiW; unfold loW at c; omega
        have e2 : (loW D - 1) % 18446744073709551616 = loW (D - 1) := by unfold loW at c ⊢; omega
        rw [e1, e2]; cases sa <;> simp
  unfold ratchetref04_wide_minus.f
  simp only [IntKind.wrap_u64]
  by_cases c : loW A < loW B
  · rw [if_pos c]
    have e1 : ((hiW A - hiW B) % 18446744073709551616 - 1) % 18446744073709551616 = hiW (A - B) := by unfold hiW; unfold loW at c; omega
    have e2 : (loW A - loW B) % 18446744073709551616 = loW (A - B) := by unfold loW at c ⊢; omega
    rw [e1, e2]; exact hj _ rfl
  · rw [if_neg c]
    have e1 : (hiW A - hiW B) % 18446744073709551616 = hiW (A - B) := by unfold hiW; unfold loW at c; omega
    have e2 : (loW A - loW B) % 18446744073709551616 = loW (A - B) := by unfold loW at c ⊢; omega
    rw [e1, e2]; exact hj _ rfl

theorem times_l0 (a b : Nat) (ha : a < 18446744073709551616) (hb : b < 18446744073709551616) : ∀ (n k : Nat) (acc : Nat), n ≤ 64 → acc = a * (b / 2 ^ n) → n + 2 < k →
    ratchetref04_times.l0 k (a : Int) (b : Int) ((n : Int) - 1) (hiW acc) (loW acc) false = some (hiW (a * b), loW (a * b), false)
  | 0, k, acc, hn, hacc, hk => by
    obtain ⟨k, rfl⟩ : ∃ m, k = m + 1 := ⟨k - 1, by omega⟩
    rw [ratchetref04_times.l0, if_neg (by omega), hacc, Nat.pow_zero, Nat.div_one]
  | n + 1, k, acc, hn, hacc, hk => by
    obtain ⟨k, rfl⟩ : ∃ m, k = m + 1 := ⟨k - 1, by omega⟩
    have hq : b / 2 ^ n = 2 * (b / 2 ^ (n + 1)) + b / 2 ^ n % 2 := by
      rw [Nat.pow_succ, ← Nat.div_div_eq_div_mul]; omega
    have hlt : a * (b / 2 ^ n) < 340282366920938463463374607431768211456 := by
      have h1 : b / 2 ^ n ≤ b := Nat.div_le_self _ _
      have h2 : a * (b / 2 ^ n) ≤ 18446744073709551615 * 18446744073709551615 := Nat.mul_le_mul (by omega) (by omega)
      omega
    have hacc2 : acc * 2 ≤ a * (b / 2 ^ n) := by
      rw [hacc, Nat.mul_assoc]; exact Nat.mul_le_mul_left _ (by omega)
    rw [ratchetref04_times.l0, if_pos (by omega), left_f k 1 acc false (by omega) (by omega) (by omega) (by omega)]
    simp only [Option.bind_some]
    rw [show Int.toNat 1 = 1 from rfl, Nat.pow_one, Nat.mod_eq_of_lt (by omega), show (((n + 1 : Nat) : Int) - 1) = (n : Int) by omega]
    have hw : IntKind.u64.wrap (n : Int) = n := by rw [IntKind.wrap_u64]; omega
    rw [hw, if_pos (by omega)]
    have hs : shr .u64 (b : Int) (n : Int) = ((b / 2 ^ n : Nat) : Int) := by
      unfold shr
      rw [show min (n : Int).toNat IntKind.u64.bits = n by show min (n : Int).toNat 64 = n; omega]
      rw [Int.natCast_ediv, Int.natCast_pow]; rfl
    have hd : b / 2 ^ n ≤ b := Nat.div_le_self _ _
    rw [hs, and1 _ (by omega) (by omega)]
    have hbit : b / 2 ^ n % 2 = 0 ∨ b / 2 ^ n % 2 = 1 := by omega
    rw [show wrap64 ((n : Int) - 1) = (n : Int) - 1 by unfold wrap64; omega]
    rcases hbit with hbit | hbit
    · rw [if_neg (by omega)]
      refine times_l0 a b ha hb n k (acc * 2) (by omega) ?_ (by omega)
      have e0 : b / 2 ^ n = 2 * (b / 2 ^ (n + 1)) := by omega
      rw [e0, hacc, Nat.mul_assoc, Nat.mul_comm _ 2]
    · rw [if_pos (by omega)]
      have hsum : acc * 2 + a = a * (b / 2 ^ n) := by
        have e0 : b / 2 ^ n = 2 * (b / 2 ^ (n + 1)) + 1 := by omega
        rw [e0, hacc, Nat.mul_add, Nat.mul_one, Nat.mul_assoc, Nat.mul_comm _ 2]
      have hp := plus_f (acc * 2) a false false (by omega)
      rw [hiW_zero ha, loW_small ha] at hp
      rw [hp]
      simp only [Option.bind_some, Bool.or_self]
      exact times_l0 a b ha hb n k (acc * 2 + a) (by omega) hsum (by omega)
theorem times_f (k a b : Nat) (hk : 100 ≤ k) (ha : a < 18446744073709551616) (hb : b < 18446744073709551616) :
    ratchetref04_times.f k (a : Int) (b : Int) = some (hiW (a * b), loW (a * b), false) := by
  have h := times_l0 a b ha hb 64 k 0 (by omega) (by rw [Nat.div_eq_of_lt (by simpa using hb)]; rfl) (by omega)
  unfold ratchetref04_times.f
  exact h
theorem less_f (A B : Nat) (sa sb : Bool) : ratchetref04_wide_less.f (hiW A) (loW A) sa (hiW B) (loW B) sb = some (decide (A < B)) := by
  unfold ratchetref04_wide_less.f
  by_cases c : hiW A < hiW B
  · rw [if_pos c, show decide (A < B) = true by simp; unfold hiW at c; omega]
  · rw [if_neg c]
    by_cases d : hiW A = hiW B
    · rw [if_pos d]
      have : (loW A < loW B) ↔ A < B := by unfold hiW at d; unfold loW; omega
      simp only [this]
    · rw [if_neg d, show decide (A < B) = false by simp; unfold hiW at c d; omega]

theorem size32 (x : Int) (h0 : 0 ≤ x) (h1 : x < 18446744073709551616) : ratchetref04_Format_size.f 23 8 x = some (x % 2147483648) := by
  unfold ratchetref04_Format_size.f
  rw [sign32, ← and31 x h0 h1]; rfl
theorem rung32 (x : Int) (h0 : 0 ≤ x) : ((rung FloatKind.f32.format x.toNat : Nat) : Int) = x % 2147483648 := by
  unfold rung
  rw [show FloatKind.f32.format.signWeight = 2147483648 by decide]
  omega
theorem cut32 (x : Int) (h0 : 0 ≤ x) (h1 : x < 18446744073709551616) : ratchetref04_Format_cut.f 23 8 x = some (x % 4294967296) := by
  unfold ratchetref04_Format_cut.f; rw [show ratchetref04_Format_width.f 23 8 = some 32 by kernel_rfl, ← and32 x h0 h1]; rfl
theorem nan32 : ratchetref04_Format_nan.f 23 8 = some 2143289344 := by kernel_rfl
theorem isNan32 (x : Int) (h0 : 0 ≤ x) (h1 : x < 18446744073709551616) : ratchetref04_Format_isNan.f 23 8 x = some (decide (FloatKind.f32.format.infRung < rung FloatKind.f32.format x.toNat)) := by
  unfold ratchetref04_Format_isNan.f
  rw [size32 x h0 h1, show ratchetref04_Format_inf.f 23 8 = some 2139095040 by kernel_rfl]
  simp only [Option.bind_some, Option.some.injEq, decide_eq_decide]
  have := rung32 x h0
  rw [show FloatKind.f32.format.infRung = 2139095040 by decide]
  omega
theorem below32 (x : Int) (h0 : 0 ≤ x) (h1 : x < 18446744073709551616) : ratchetref04_Format_below.f 23 8 x = some (sgn FloatKind.f32.format x.toNat) := by
  unfold ratchetref04_Format_below.f
  rw [sign32]
  simp only [Option.bind_some, Option.some.injEq]
  rw [u64_and x 2147483648 h0 h1 (by decide) (by decide), show Int.toNat 2147483648 = 2 ^ 31 by decide, nat_bit]
  unfold sgn
  rw [show FloatKind.f32.format.signWeight = 2 ^ 31 by decide]
  have : x.toNat / 2 ^ 31 % 2 = 0 ∨ x.toNat / 2 ^ 31 % 2 = 1 := by omega
  rcases this with h | h <;> rw [h] <;> rfl
theorem size64 (x : Int) (h0 : 0 ≤ x) (h1 : x < 18446744073709551616) : ratchetref04_Format_size.f 52 11 x = some (x % 9223372036854775808) := by
  unfold ratchetref04_Format_size.f
  rw [sign64, ← and63 x h0 h1]; rfl
theorem rung64 (x : Int) (h0 : 0 ≤ x) : ((rung FloatKind.f64.format x.toNat : Nat) : Int) = x % 9223372036854775808 := by
  unfold rung
  rw [show FloatKind.f64.format.signWeight = 9223372036854775808 by decide]
  omega
theorem cut64 (x : Int) : ratchetref04_Format_cut.f 52 11 x = some x := by
  unfold ratchetref04_Format_cut.f; rw [show ratchetref04_Format_width.f 52 11 = some 64 by kernel_rfl]; rfl
theorem nan64 : ratchetref04_Format_nan.f 52 11 = some 9221120237041090560 := by kernel_rfl
theorem isNan64 (x : Int) (h0 : 0 ≤ x) (h1 : x < 18446744073709551616) : ratchetref04_Format_isNan.f 52 11 x = some (decide (FloatKind.f64.format.infRung < rung FloatKind.f64.format x.toNat)) := by
  unfold ratchetref04_Format_isNan.f
  rw [size64 x h0 h1, show ratchetref04_Format_inf.f 52 11 = some 9218868437227405312 by kernel_rfl]
  simp only [Option.bind_some, Option.some.injEq, decide_eq_decide]
  have := rung64 x h0
  rw [show FloatKind.f64.format.infRung = 9218868437227405312 by decide]
  omega
theorem below64 (x : Int) (h0 : 0 ≤ x) (h1 : x < 18446744073709551616) : ratchetref04_Format_below.f 52 11 x = some (sgn FloatKind.f64.format x.toNat) := by
  unfold ratchetref04_Format_below.f
  rw [sign64]
  simp only [Option.bind_some, Option.some.injEq]
  rw [u64_and x 9223372036854775808 h0 h1 (by decide) (by decide), show Int.toNat 9223372036854775808 = 2 ^ 63 by decide, nat_bit]
  unfold sgn
  rw [show FloatKind.f64.format.signWeight = 2 ^ 63 by decide]
  have : x.toNat / 2 ^ 63 % 2 = 0 ∨ x.toNat / 2 ^ 63 % 2 = 1 := by omega
  rcases this with h | h <;> rw [h] <;> rfl


theorem parts32 (x : Int) (h0 : 0 ≤ x) (h1 : x < 18446744073709551616) :
    ratchetref04_Format_parts.f 23 8 x = some ((sgf FloatKind.f32.format (rung FloatKind.f32.format x.toNat) : Int), -149 + (exf FloatKind.f32.format (rung FloatKind.f32.format x.toNat) : Int)) := by
  unfold ratchetref04_Format_parts.f
  have hr := rung32 x h0
  generalize rung FloatKind.f32.format x.toNat = r at hr ⊢
  have hlt : r < 2147483648 := by omega
  rw [size32 x h0 h1]
  simp only [Option.bind_some]
  rw [← hr]
  clear hr
  have w1 : IntKind.u64.wrap 23 = 23 := by decide
  have t2 : shl .u64 1 23 = 8388608 := by decide
  have t3 : IntKind.u64.wrap (8388608 - 1) = 8388607 := by decide
  have s2 : shr .u64 (r : Int) 23 = (r : Int) / 8388608 := rfl
  have m : bits .and .u64 (r : Int) 8388607 = (r : Int) % 8388608 := and_mask 23 (by decide) _ (by omega) (by omega)
  rw [w1, if_pos (by decide), s2, t2, t3, m, bias32]
  simp only [Option.bind_some]
  unfold sgf exf
  rw [show FloatKind.f32.format.binade = 8388608 by decide]
  have e1 : wrap64 ((r : Int) / 8388608) = ((r / 8388608 : Nat) : Int) := by unfold wrap64; omega
  rw [e1]
  by_cases c : r < 8388608
  · rw [if_pos c, if_pos c, if_pos (by omega)]
    simp only [Option.some.injEq, Prod.mk.injEq]
    exact ⟨by omega, by kernel_rfl⟩
  · have hq : 1 ≤ r / 8388608 := by omega
    have hq2 : r / 8388608 < 5000000000 := by omega
    have e2 : wrap64 (((r / 8388608 : Nat) : Int) - 150) = -149 + ((r / 8388608 - 1 : Nat) : Int) := by
      generalize r / 8388608 = q at hq hq2 ⊢
      unfold wrap64; omega
    rw [if_neg c, if_neg c, if_neg (by omega), IntKind.wrap_u64, e2]
    simp only [Option.some.injEq, Prod.mk.injEq, and_true]
    omega


theorem parts64 (x : Int) (h0 : 0 ≤ x) (h1 : x < 18446744073709551616) :
    ratchetref04_Format_parts.f 52 11 x = some ((sgf FloatKind.f64.format (rung FloatKind.f64.format x.toNat) : Int), -1074 + (exf FloatKind.f64.format (rung FloatKind.f64.format x.toNat) : Int)) := by
  unfold ratchetref04_Format_parts.f
  have hr := rung64 x h0
  generalize rung FloatKind.f64.format x.toNat = r at hr ⊢
  have hlt : r < 9223372036854775808 := by omega
  rw [size64 x h0 h1]
  simp only [Option.bind_some]
  rw [← hr]
  clear hr
  have w1 : IntKind.u64.wrap 52 = 52 := by decide
  have t2 : shl .u64 1 52 = 4503599627370496 := by decide
  have t3 : IntKind.u64.wrap (4503599627370496 - 1) = 4503599627370495 := by decide
  have s2 : shr .u64 (r : Int) 52 = (r : Int) / 4503599627370496 := rfl
  have m : bits .and .u64 (r : Int) 4503599627370495 = (r : Int) % 4503599627370496 := and_mask 52 (by decide) _ (by omega) (by omega)
  rw [w1, if_pos (by decide), s2, t2, t3, m, bias64]
  simp only [Option.bind_some]
  unfold sgf exf
  rw [show FloatKind.f64.format.binade = 4503599627370496 by decide]
  have e1 : wrap64 ((r : Int) / 4503599627370496) = ((r / 4503599627370496 : Nat) : Int) := by unfold wrap64; omega
  rw [e1]
  by_cases c : r < 4503599627370496
  · rw [if_pos c, if_pos c, if_pos (by omega)]
    simp only [Option.some.injEq, Prod.mk.injEq]
    exact ⟨by omega, by kernel_rfl⟩
  · have hq : 1 ≤ r / 4503599627370496 := by omega
    have hq2 : r / 4503599627370496 < 5000000000 := by omega
    have e2 : wrap64 (((r / 4503599627370496 : Nat) : Int) - 1075) = -1074 + ((r / 4503599627370496 - 1 : Nat) : Int) := by
      generalize r / 4503599627370496 = q at hq hq2 ⊢
      unfold wrap64; omega
    rw [if_neg c, if_neg c, if_neg (by omega), IntKind.wrap_u64, e2]
    simp only [Option.some.injEq, Prod.mk.injEq, and_true]
    omega

end Go.Proofs.Ytapfapngcncaeaa.QF
