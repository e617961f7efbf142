/- Plain facts on the model's rounding: rounding to even of a quotient by a power of two; it hangs on the value alone; numbers that a format has are not changed. -/
import Derived.Test.YtapfapngcncaeaaIe
namespace Go.Proofs.Ytapfapngcncaeaa.Ie
open Ieee

/-- n / g to the nearest, between two the even one. -/
def reven (n g : Nat) : Nat := n / g + (if g < 2 * (n % g) ∨ (g = 2 * (n % g) ∧ n / g % 2 = 1) then 1 else 0)

theorem reven_mul (n g c : Nat) (hc : 0 < c) : reven (n * c) (g * c) = reven n g := by
  unfold reven
  rw [Nat.mul_div_mul_right _ _ hc, Nat.mul_mod_mul_right]
  have e1 : g * c < 2 * (n % g * c) ↔ g < 2 * (n % g) := by
    rw [← Nat.mul_assoc]; exact Nat.mul_lt_mul_right hc
  have e2 : g * c = 2 * (n % g * c) ↔ g = 2 * (n % g) := by
    rw [← Nat.mul_assoc]; exact Nat.mul_left_inj (by omega)
  simp only [e1, e2]
theorem reven_one (n : Nat) : reven n 1 = n := by
  unfold reven
  rw [Nat.div_one, Nat.mod_one]
  simp
theorem reven_exact (n g : Nat) (hg : 0 < g) : reven (n * g) g = n := by
  have := reven_mul n 1 g hg
  rw [Nat.one_mul] at this
  rw [this, reven_one]

theorem log2_lt' (n : Nat) : n < 2 ^ (n.log2 + 1) := Nat.lt_log2_self

theorem cut_even (neg : Bool) (n d : Nat) : Toward.even.cut neg n d = reven n (2 ^ d) := by
  unfold Toward.cut reven
  simp only [Nat.shiftLeft_eq, Nat.one_mul]
  have h1 := log2_lt' n
  rcases Nat.le_total d (n.log2 + 2) with h | h
  · rw [Nat.min_eq_left h]
    generalize 2 ^ d = g
    by_cases c1 : g < 2 * (n % g)
    · simp [c1]
    · by_cases c2 : g = 2 * (n % g) ∧ n / g % 2 = 1
      · have c3 : (g == 2 * (n % g)) = true := by simpa using c2.1
        have c4 : (n / g % 2 == 1) = true := by simpa using c2.2
        rw [c3, c4, if_pos (Or.inr c2)]; cases decide (g < 2 * (n % g)) <;> rfl
      · rw [if_neg (by omega)]
        by_cases c3 : g = 2 * (n % g)
        · have c4 : (n / g % 2 == 1) = false := by simp; omega
          rw [c4]; simp [c1]
        · have c4 : (g == 2 * (n % g)) = false := by simpa using c3
          rw [c4]; simp [c1]
  · rw [Nat.min_eq_right h]
    have e1 : n.log2 + 2 = n.log2 + 1 + 1 := rfl
    have h2 : (2 : Nat) ^ (n.log2 + 2) = 2 * 2 ^ (n.log2 + 1) := by rw [e1, Nat.pow_succ, Nat.mul_comm]
    have h3 : (2 : Nat) ^ (n.log2 + 2) ≤ 2 ^ d := Nat.pow_le_pow_right (by decide) h
    have a1 : n / 2 ^ (n.log2 + 2) = 0 := Nat.div_eq_of_lt (by omega)
    have a2 : n % 2 ^ (n.log2 + 2) = n := Nat.mod_eq_of_lt (by omega)
    have b1 : n / 2 ^ d = 0 := Nat.div_eq_of_lt (by omega)
    have b2 : n % 2 ^ d = n := Nat.mod_eq_of_lt (by omega)
    rw [a1, a2, b1, b2]
    have c1 : ¬ (2 ^ (n.log2 + 2) < 2 * n) := by omega
    have c2 : ¬ (2 ^ d < 2 * n) := by omega
    simp [c1, c2]

/-- The place of the last digit that is kept. -/
def lastP (f : Format) (mag : Nat) (place : Int) : Int := max (place + mag.log2 - f.fractionBits) f.leastPlace
def keptN (f : Format) (mag : Nat) (place : Int) : Nat :=
  reven (mag * 2 ^ (place - lastP f mag place).toNat) (2 ^ (lastP f mag place - place).toNat)

theorem nearest_eq (f : Format) (neg : Bool) (mag : Nat) (place : Int) (h : mag ≠ 0) :
    f.nearest neg mag place = f.word neg (min ((lastP f mag place - f.leastPlace).toNat * f.binade + keptN f mag place) f.infRung) := by
  unfold Format.nearest keptN
  rw [if_neg h]
  dsimp only
  rw [cut_even, Nat.shiftLeft_eq]
  rfl

theorem log2_scale (m k : Nat) (h : m ≠ 0) : (m * 2 ^ k).log2 = m.log2 + k := by
  have hp : 0 < 2 ^ k := Nat.two_pow_pos k
  have hm : m * 2 ^ k ≠ 0 := by
    have := Nat.mul_pos (Nat.pos_of_ne_zero h) hp
    omega
  rw [Nat.log2_eq_iff hm]
  have h1 := Nat.log2_self_le h
  have h2 := log2_lt' m
  constructor
  · rw [Nat.pow_add]; exact Nat.mul_le_mul_right _ h1
  · rw [show m.log2 + k + 1 = (m.log2 + 1) + k by omega, Nat.pow_add]; exact Nat.mul_lt_mul_of_pos_right h2 hp

/-- Rounding hangs on the value alone. -/
theorem nearest_scale (f : Format) (neg : Bool) (m k : Nat) (place : Int) : f.nearest neg (m * 2 ^ k) (place - k) = f.nearest neg m place := by
  by_cases h : m = 0
  · subst h; simp [Format.nearest]
  · have hp : 0 < 2 ^ k := Nat.two_pow_pos k
    have hm : m * 2 ^ k ≠ 0 := by
      have := Nat.mul_pos (Nat.pos_of_ne_zero h) hp
      omega
    have hl : lastP f (m * 2 ^ k) (place - k) = lastP f m place := by
      unfold lastP
      rw [log2_scale m k h]
      congr 1
      omega
    rw [nearest_eq f neg _ _ hm, nearest_eq f neg _ _ h, hl]
    have hk : keptN f (m * 2 ^ k) (place - k) = keptN f m place := by
      unfold keptN
      rw [hl]
      generalize lastP f m place = l
      rcases Int.le_total l (place - k) with h1 | h1
      · rw [show (l - (place - k)).toNat = 0 by omega, show (l - place).toNat = 0 by omega, Nat.pow_zero, reven_one, reven_one, Nat.mul_assoc, ← Nat.pow_add]
        congr 2; omega
      · rw [show (place - k - l).toNat = 0 by omega, Nat.pow_zero, Nat.mul_one]
        rcases Int.le_total l place with h2 | h2
        · rw [show (l - place).toNat = 0 by omega, Nat.pow_zero, reven_one]
          have e : k = (place - l).toNat + (l - (place - k)).toNat := by omega
          have e2 : (2 : Nat) ^ k = 2 ^ (place - l).toNat * 2 ^ (l - (place - k)).toNat := by rw [← Nat.pow_add, ← e]
          rw [e2, ← Nat.mul_assoc, reven_exact _ _ (Nat.two_pow_pos _)]
        · rw [show (place - l).toNat = 0 by omega, Nat.pow_zero, Nat.mul_one]
          have e : (l - (place - k)).toNat = (l - place).toNat + k := by omega
          rw [e, Nat.pow_add, reven_mul _ _ _ hp]
    rw [hk]

/-- A number that the format has is not changed. -/
theorem nearest_exact (f : Format) (neg : Bool) (r m e : Nat) (hr : r < f.infRung) (h : m * 2 ^ e = mag f r) :
    f.nearest neg m (f.leastPlace + e) = f.word neg r := by
  have hb := binade_pos f
  by_cases h0 : m = 0
  · subst h0
    rw [Nat.zero_mul] at h
    have : r = 0 := by
      rcases Nat.eq_zero_or_pos r with h1 | h1
      · exact h1
      · have := mag_lt f h1
        omega
    subst this
    simp [Format.nearest]
  · have hs := nearest_scale f neg m e (f.leastPlace + e)
    rw [show f.leastPlace + (e : Int) - e = f.leastPlace by omega, h] at hs
    rw [← hs]
    have hM : mag f r ≠ 0 := by
      rw [← h]
      have := Nat.mul_pos (Nat.pos_of_ne_zero h0) (Nat.two_pow_pos e)
      omega
    rw [nearest_eq f neg _ _ hM]
    congr 1
    rw [Nat.min_eq_left]
    · -- the rung comes out again
      rcases Nat.lt_or_ge r f.binade with h1 | h1
      · have e1 : mag f r = r := by unfold mag; rw [if_pos h1]
        have hl : lastP f (mag f r) f.leastPlace = f.leastPlace := by
          unfold lastP
          rw [e1]
          have : r.log2 < f.fractionBits := by
            rw [Nat.log2_lt (by omega)]; exact h1
          omega
        unfold keptN
        rw [hl, Int.sub_self]
        simp [reven_one, e1]
      · have hq : 1 ≤ r / f.binade := (Nat.le_div_iff_mul_le hb).2 (by omega)
        have hlog : (mag f r).log2 = f.fractionBits + (r / f.binade - 1) := by
          rw [Nat.log2_eq_iff hM]
          have hbd := mag_bounds f r h1
          unfold Format.binade at hbd ⊢
          rw [← Nat.pow_add, ← Nat.pow_add] at hbd
          refine ⟨hbd.1, ?_⟩
          rw [show f.fractionBits + (r / 2 ^ f.fractionBits - 1) + 1 = f.fractionBits + r / 2 ^ f.fractionBits by unfold Format.binade at hq; omega]
          exact hbd.2
        have hl : lastP f (mag f r) f.leastPlace = f.leastPlace + (r / f.binade - 1 : Nat) := by
          unfold lastP
          rw [hlog]
          omega
        unfold keptN
        rw [hl]
        rw [show (f.leastPlace - (f.leastPlace + ((r / f.binade - 1 : Nat) : Int))).toNat = 0 by omega, show (f.leastPlace + ((r / f.binade - 1 : Nat) : Int) - f.leastPlace).toNat = r / f.binade - 1 by omega, Nat.pow_zero, Nat.mul_one]
        have e1 : mag f r = (f.binade + r % f.binade) * 2 ^ (r / f.binade - 1) := by unfold mag; rw [if_neg (by omega)]
        rw [e1, reven_exact _ _ (Nat.two_pow_pos _)]
        have d := Nat.div_add_mod r f.binade
        have e2 : (r / f.binade - 1) * f.binade + f.binade = f.binade * (r / f.binade) := by
          rw [Nat.mul_comm f.binade, ← Nat.succ_mul]
          congr 1; omega
        omega
    · -- and it is below infinity's
      have := hr
      rcases Nat.lt_or_ge r f.binade with h1 | h1
      · have e1 : mag f r = r := by unfold mag; rw [if_pos h1]
        have hl : lastP f (mag f r) f.leastPlace = f.leastPlace := by
          unfold lastP
          rw [e1]
          have : r.log2 < f.fractionBits := by
            rw [Nat.log2_lt (by omega)]; exact h1
          omega
        unfold keptN
        rw [hl, Int.sub_self]
        simp [reven_one, e1]
        omega
      · have hq : 1 ≤ r / f.binade := (Nat.le_div_iff_mul_le hb).2 (by omega)
        have hlog : (mag f r).log2 = f.fractionBits + (r / f.binade - 1) := by
          rw [Nat.log2_eq_iff hM]
          have hbd := mag_bounds f r h1
          unfold Format.binade at hbd ⊢
          rw [← Nat.pow_add, ← Nat.pow_add] at hbd
          refine ⟨hbd.1, ?_⟩
          rw [show f.fractionBits + (r / 2 ^ f.fractionBits - 1) + 1 = f.fractionBits + r / 2 ^ f.fractionBits by unfold Format.binade at hq; omega]
          exact hbd.2
        have hl : lastP f (mag f r) f.leastPlace = f.leastPlace + (r / f.binade - 1 : Nat) := by
          unfold lastP
          rw [hlog]
          omega
        unfold keptN
        rw [hl]
        rw [show (f.leastPlace - (f.leastPlace + ((r / f.binade - 1 : Nat) : Int))).toNat = 0 by omega, show (f.leastPlace + ((r / f.binade - 1 : Nat) : Int) - f.leastPlace).toNat = r / f.binade - 1 by omega, Nat.pow_zero, Nat.mul_one]
        have e1 : mag f r = (f.binade + r % f.binade) * 2 ^ (r / f.binade - 1) := by unfold mag; rw [if_neg (by omega)]
        rw [e1, reven_exact _ _ (Nat.two_pow_pos _)]
        have d := Nat.div_add_mod r f.binade
        have e2 : (r / f.binade - 1) * f.binade + f.binade = f.binade * (r / f.binade) := by
          rw [Nat.mul_comm f.binade, ← Nat.succ_mul]
          congr 1; omega
        omega
end Go.Proofs.Ytapfapngcncaeaa.Ie
