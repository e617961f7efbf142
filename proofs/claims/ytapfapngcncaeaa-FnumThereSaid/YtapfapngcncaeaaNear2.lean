/- Plain facts on the model's rounding: what is cut off below a number counts only as something or nothing. -/
import Derived.Test.YtapfapngcncaeaaNear
namespace Go.Proofs.Ytapfapngcncaeaa.Ie
open Ieee

theorem ite_iff (p q : Prop) [Decidable p] [Decidable q] (h : p ↔ q) : (if p then 1 else 0 : Nat) = if q then 1 else 0 := by
  by_cases hp : p
  · rw [if_pos hp, if_pos (h.1 hp)]
  · rw [if_neg hp, if_neg (fun hq => hp (h.2 hq))]

/-- What is kept of w (a little more, if s) behind d digits are dropped. -/
def keptUp (w d : Nat) (s : Bool) : Nat := w / 2 ^ d + (if w / 2 ^ (d - 1) % 2 = 1 ∧ (s = true ∨ w % 2 ^ (d - 1) ≠ 0 ∨ w / 2 ^ d % 2 = 1) then 1 else 0)

theorem reven_sticky (w d : Nat) (s : Bool) (hd : 1 ≤ d) : reven (2 * w + s.toNat) (2 ^ (d + 1)) = keptUp w d s := by
  obtain ⟨d, rfl⟩ : ∃ m, d = m + 1 := ⟨d - 1, by omega⟩
  unfold reven keptUp
  rw [show d + 1 - 1 = d from rfl]
  have hp : 0 < 2 ^ d := Nat.two_pow_pos d
  have e1 : (2 : Nat) ^ (d + 1) = 2 * 2 ^ d := by rw [Nat.pow_succ, Nat.mul_comm]
  have e2 : (2 : Nat) ^ (d + 1 + 1) = 2 * (2 * 2 ^ d) := by rw [Nat.pow_succ, Nat.mul_comm, e1]
  rw [e2, e1]
  have hs : s.toNat < 2 := by cases s <;> decide
  have q1 : (2 * w + s.toNat) / (2 * (2 * 2 ^ d)) = w / (2 * 2 ^ d) := by
    rw [← Nat.div_div_eq_div_mul, show (2 * w + s.toNat) / 2 = w by omega]
  have q2 : (2 * w + s.toNat) % (2 * (2 * 2 ^ d)) = 2 * (w % (2 * 2 ^ d)) + s.toNat := by
    rw [Nat.mod_mul, show (2 * w + s.toNat) / 2 = w by omega, show (2 * w + s.toNat) % 2 = s.toNat by omega]; omega
  rw [q1, q2]
  have q3 : w % (2 * 2 ^ d) = w % 2 ^ d + 2 ^ d * (w / 2 ^ d % 2) := by rw [Nat.mul_comm 2, Nat.mod_mul]
  rw [q3]
  have hm : w % 2 ^ d < 2 ^ d := Nat.mod_lt _ hp
  generalize w % 2 ^ d = a at hm ⊢
  generalize w / (2 * 2 ^ d) = q
  have hb : w / 2 ^ d % 2 = 0 ∨ w / 2 ^ d % 2 = 1 := by omega
  generalize 2 ^ d = g at hm hp hb ⊢
  congr 1
  rcases hb with hb | hb <;> rw [hb] <;> cases s <;> refine ite_iff _ _ ?_ <;> simp only [Bool.toNat_false, Bool.toNat_true, Bool.false_eq_true, true_or, and_true, false_or, eq_self, true_and, Nat.zero_ne_one, false_and, iff_false, iff_true, ne_eq] <;> first | omega | (constructor <;> intro h <;> omega)

/-- The model's rounding of w (a little more, if s) times 2^e, as the reference reckons it. -/
theorem nearest_sticky (f : Ieee.Format) (neg : Bool) (w : Nat) (hw : 0 < w) (s : Bool) (e : Int)
    (hs : s = true → 1 ≤ max ((w.log2 : Int) - f.fractionBits) (f.leastPlace - e)) :
    f.nearest neg (2 * w + s.toNat) (e - 1) = f.word neg (min ((e + max ((w.log2 : Int) - f.fractionBits) (f.leastPlace - e) - f.leastPlace).toNat * f.binade +
      (if max ((w.log2 : Int) - f.fractionBits) (f.leastPlace - e) ≤ 0 then w * 2 ^ (-(max ((w.log2 : Int) - f.fractionBits) (f.leastPlace - e))).toNat
       else keptUp w (max ((w.log2 : Int) - f.fractionBits) (f.leastPlace - e)).toNat s)) f.infRung) := by
  have hlog : (2 * w + s.toNat).log2 = w.log2 + 1 := by
    have h1 := Nat.log2_self_le (n := w) (by omega)
    have h2 := log2_lt' w
    have hst : s.toNat < 2 := by cases s <;> decide
    rw [Nat.log2_eq_iff (by omega), Nat.pow_succ, Nat.pow_succ 2 (w.log2 + 1)]
    omega
  have hl : lastP f (2 * w + s.toNat) (e - 1) = e + max ((w.log2 : Int) - f.fractionBits) (f.leastPlace - e) := by
    unfold lastP; rw [hlog]; omega
  rw [nearest_eq f neg _ _ (by omega)]
  unfold keptN
  rw [hl]
  generalize max ((w.log2 : Int) - f.fractionBits) (f.leastPlace - e) = D at hs ⊢
  congr 3
  by_cases hD : D ≤ 0
  · rw [if_pos hD]
    have hs0 : s = false := by
      cases s with
      | false => rfl
      | true => have := hs rfl; omega
    subst hs0
    rw [show Bool.toNat false = 0 from rfl, Nat.add_zero]
    by_cases h0 : D = 0
    · subst h0
      rw [show (e - 1 - (e + 0)).toNat = 0 by omega, show (e + 0 - (e - 1)).toNat = 1 by omega, Nat.pow_zero, Nat.mul_one, Nat.mul_comm 2 w]
      have := reven_exact w (2 ^ 1) (by decide)
      simpa using this
    · rw [show (e + D - (e - 1)).toNat = 0 by omega, Nat.pow_zero, reven_one]
      have e1 : (-D).toNat = (e - 1 - (e + D)).toNat + 1 := by omega
      rw [e1, Nat.pow_succ, ← Nat.mul_assoc, Nat.mul_comm _ 2, ← Nat.mul_assoc]
  · rw [if_neg hD, show (e - 1 - (e + D)).toNat = 0 by omega, Nat.pow_zero, Nat.mul_one, show (e + D - (e - 1)).toNat = D.toNat + 1 by omega]
    exact reven_sticky w D.toNat s (by omega)

theorem kept_le (w F : Nat) (D : Int) (hD : (w.log2 : Int) - F ≤ D) (s : Bool) :
    (if D ≤ 0 then w * 2 ^ (-D).toNat else keptUp w D.toNat s) ≤ 2 ^ (F + 1) := by
  have h2 := log2_lt' w
  by_cases h : D ≤ 0
  · rw [if_pos h]
    have e1 : w.log2 + 1 + (-D).toNat ≤ F + 1 := by omega
    have e2 : w * 2 ^ (-D).toNat ≤ 2 ^ (w.log2 + 1) * 2 ^ (-D).toNat := Nat.mul_le_mul_right _ (by omega)
    rw [← Nat.pow_add] at e2
    exact Nat.le_trans e2 (Nat.pow_le_pow_right (by decide) e1)
  · rw [if_neg h]
    unfold keptUp
    have e1 : w / 2 ^ D.toNat < 2 ^ (F + 1) := by
      rw [Nat.div_lt_iff_lt_mul (Nat.two_pow_pos _), ← Nat.pow_add]
      exact Nat.lt_of_lt_of_le h2 (Nat.pow_le_pow_right (by decide) (by omega))
    split <;> omega
theorem kept_ge (w F : Nat) (D : Int) (hw : 0 < w) (hD : (w.log2 : Int) - F = D) (s : Bool) :
    2 ^ F ≤ (if D ≤ 0 then w * 2 ^ (-D).toNat else keptUp w D.toNat s) := by
  have h1 := Nat.log2_self_le (n := w) (by omega)
  by_cases h : D ≤ 0
  · rw [if_pos h]
    have e2 : 2 ^ w.log2 * 2 ^ (-D).toNat ≤ w * 2 ^ (-D).toNat := Nat.mul_le_mul_right _ h1
    rw [← Nat.pow_add] at e2
    exact Nat.le_trans (Nat.pow_le_pow_right (by decide) (by omega)) e2
  · rw [if_neg h]
    unfold keptUp
    have e1 : 2 ^ F ≤ w / 2 ^ D.toNat := by
      rw [Nat.le_div_iff_mul_le (Nat.two_pow_pos _), ← Nat.pow_add]
      exact Nat.le_trans (Nat.pow_le_pow_right (by decide) (by omega)) h1
    omega



theorem reven_trunc (w d j rem : Nat) (hd : 1 ≤ d) (hr : rem < 2 ^ j) (h0 : rem ≠ 0) : reven (w * 2 ^ j + rem) (2 ^ (d + j)) = keptUp w d true := by
  obtain ⟨d, rfl⟩ : ∃ m, d = m + 1 := ⟨d - 1, by omega⟩
  unfold reven keptUp
  rw [show d + 1 - 1 = d from rfl]
  have hp : 0 < 2 ^ d := Nat.two_pow_pos d
  have e1 : (2 : Nat) ^ (d + 1) = 2 * 2 ^ d := by rw [Nat.pow_succ, Nat.mul_comm]
  have e2 : (2 : Nat) ^ (d + 1 + j) = 2 ^ j * (2 * 2 ^ d) := by rw [Nat.pow_add, e1, Nat.mul_comm]
  rw [e2, e1]
  have hj : 0 < 2 ^ j := Nat.two_pow_pos j
  have q0 : (w * 2 ^ j + rem) / 2 ^ j = w := by rw [Nat.mul_comm, Nat.mul_add_div hj, Nat.div_eq_of_lt hr]; rfl
  have q0' : (w * 2 ^ j + rem) % 2 ^ j = rem := by rw [Nat.mul_comm, Nat.mul_add_mod, Nat.mod_eq_of_lt hr]
  have q1 : (w * 2 ^ j + rem) / (2 ^ j * (2 * 2 ^ d)) = w / (2 * 2 ^ d) := by rw [← Nat.div_div_eq_div_mul, q0]
  have q2 : (w * 2 ^ j + rem) % (2 ^ j * (2 * 2 ^ d)) = rem + 2 ^ j * (w % (2 * 2 ^ d)) := by rw [Nat.mod_mul, q0, q0']
  rw [q1, q2]
  have q3 : w % (2 * 2 ^ d) = w % 2 ^ d + 2 ^ d * (w / 2 ^ d % 2) := by rw [Nat.mul_comm 2, Nat.mod_mul]
  rw [q3]
  have hm : w % 2 ^ d < 2 ^ d := Nat.mod_lt _ hp
  generalize w % 2 ^ d = a at hm ⊢
  generalize w / (2 * 2 ^ d) = q
  have hb : w / 2 ^ d % 2 = 0 ∨ w / 2 ^ d % 2 = 1 := by omega
  generalize 2 ^ d = g at hm hp hb ⊢
  generalize 2 ^ j = h at hr hj ⊢
  congr 1
  have m1 : h * (2 * g) = 2 * (h * g) := by rw [← Nat.mul_assoc, Nat.mul_comm h 2, Nat.mul_assoc]
  rcases hb with hb | hb <;> rw [hb] <;> refine ite_iff _ _ ?_
  · have m2 : h * (a + 1) ≤ h * g := Nat.mul_le_mul_left _ hm
    rw [Nat.mul_add, Nat.mul_one] at m2
    rw [Nat.mul_zero, Nat.add_zero, m1]
    constructor
    · intro hh; omega
    · intro hh; omega
  · have m3 : h * (a + g) = h * a + h * g := Nat.mul_add _ _ _
    rw [Nat.mul_one, m3, m1]
    constructor
    · intro _; exact ⟨rfl, .inl rfl⟩
    · intro _; left; omega

/-- What is cut off below counts only as something or nothing. -/
theorem nearest_trunc (f : Format) (neg : Bool) (X j rem : Nat) (place : Int) (hX : 0 < X) (hr : rem < 2 ^ j)
    (hD : rem ≠ 0 → 1 ≤ max ((X.log2 : Int) - f.fractionBits) (f.leastPlace - (place + j))) :
    f.nearest neg (X * 2 ^ j + rem) place = f.nearest neg (2 * X + (decide (rem ≠ 0)).toNat) (place + j - 1) := by
  by_cases h0 : rem = 0
  · subst h0
    have h1 := nearest_scale f neg X j (place + j)
    have h2 := nearest_scale f neg X 1 (place + j)
    rw [show place + (j : Int) - j = place by omega] at h1
    rw [show ((1 : Nat) : Int) = 1 from rfl, Nat.pow_one, Nat.mul_comm X 2] at h2
    simp only [Nat.add_zero, ne_eq, not_true_eq_false, decide_false, Bool.toNat_false]
    rw [h1, h2]
  · have hD' := hD h0
    rw [show decide (rem ≠ 0) = true by simpa using h0]
    rw [nearest_sticky f neg X hX true (place + j) (fun _ => hD')]
    have hp : 0 < 2 ^ j := Nat.two_pow_pos j
    have hXj : 2 ^ j ≤ X * 2 ^ j := Nat.le_mul_of_pos_left _ hX
    have hlog : (X * 2 ^ j + rem).log2 = X.log2 + j := by
      rw [Nat.log2_eq_iff (by omega)]
      have h1 := Nat.log2_self_le (n := X) (by omega)
      have h2 := log2_lt' X
      constructor
      · rw [Nat.pow_add]; exact Nat.le_trans (Nat.mul_le_mul_right _ h1) (Nat.le_add_right _ _)
      · rw [show X.log2 + j + 1 = (X.log2 + 1) + j by omega, Nat.pow_add]
        have : (X + 1) * 2 ^ j ≤ 2 ^ (X.log2 + 1) * 2 ^ j := Nat.mul_le_mul_right _ h2
        rw [Nat.succ_mul] at this
        omega
    rw [nearest_eq f neg _ _ (by omega)]
    have hl : lastP f (X * 2 ^ j + rem) place = place + j + max ((X.log2 : Int) - f.fractionBits) (f.leastPlace - (place + j)) := by
      unfold lastP; rw [hlog]; omega
    unfold keptN
    rw [hl]
    generalize max ((X.log2 : Int) - f.fractionBits) (f.leastPlace - (place + j)) = D at hD' ⊢
    rw [if_neg (by omega), show (place - (place + j + D)).toNat = 0 by omega, Nat.pow_zero, Nat.mul_one, show (place + j + D - place).toNat = D.toNat + j by omega, reven_trunc X D.toNat j rem (by omega) hr h0]
end Go.Proofs.Ytapfapngcncaeaa.Ie
