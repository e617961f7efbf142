/- Plain: a quotient with more digits than are needed is rounded as the model's; so is a root. -/
import Derived.Test.YtapfapngcncaeaaSum0
import Derived.Test.YtapfapngcncaeaaFl5
namespace Go.Proofs.Ytapfapngcncaeaa.Ie
open Ieee

theorem near_quot (f : Format) (s : Bool) (B n c : Nat) (pl : Int) (hn : 0 < n) (hB : 2 ^ (f.fractionBits + 1) ≤ B / n) :
    f.nearest s (2 * (2 ^ c * B / n) + (decide (2 ^ c * B % n ≠ 0)).toNat) pl = f.nearest s (2 * (B / n) + (decide (B % n ≠ 0)).toNat) (pl + c) := by
  have hc : 0 < 2 ^ c := Nat.two_pow_pos c
  have hX : 0 < B / n := Nat.lt_of_lt_of_le (Nat.two_pow_pos _) hB
  have h1 := Nat.div_add_mod B n
  have hr : B % n < n := Nat.mod_lt _ hn
  have e0 : 2 ^ c * B = n * (2 ^ c * (B / n)) + 2 ^ c * (B % n) := by
    rw [Nat.mul_left_comm, ← Nat.mul_add, h1]
  have e1 : 2 ^ c * B / n = 2 ^ c * (B / n) + 2 ^ c * (B % n) / n := by rw [e0, Nat.mul_add_div hn]
  have e2 : 2 ^ c * B % n = 2 ^ c * (B % n) % n := by rw [e0, Nat.mul_add_mod]
  rw [e1, e2]
  generalize B % n = ρ at hr ⊢
  generalize B / n = X at hX hB ⊢
  have hq : 2 ^ c * ρ / n < 2 ^ c := by
    rw [Nat.div_lt_iff_lt_mul hn]; exact Nat.mul_lt_mul_of_pos_left hr hc
  have hz : 2 * (2 ^ c * ρ / n) + (decide (2 ^ c * ρ % n ≠ 0)).toNat ≠ 0 ↔ ρ ≠ 0 := by
    constructor
    · rintro h rfl; apply h; simp
    · intro h h'
      have h2 : 0 < 2 ^ c * ρ := Nat.mul_pos hc (Nat.pos_of_ne_zero h)
      have h3 := Nat.div_add_mod (2 ^ c * ρ) n
      have h4 : 2 ^ c * ρ / n = 0 := by omega
      have h5 : (decide (2 ^ c * ρ % n ≠ 0)).toNat = 0 := by omega
      have h6 : 2 ^ c * ρ % n = 0 := by
        by_cases h7 : 2 ^ c * ρ % n = 0
        · exact h7
        · simp [h7] at h5
      rw [h4, h6] at h3
      simp at h3
      omega
  have hb : (decide (2 ^ c * ρ % n ≠ 0)).toNat ≤ 1 := Bool.toNat_le _
  generalize (decide (2 ^ c * ρ % n ≠ 0)).toNat = σ at hz hb ⊢
  generalize 2 ^ c * ρ / n = Q at hz hq ⊢
  have hl := log2_ge hB
  have ht := nearest_trunc f s X (c + 1) (2 * Q + σ) pl hX (by rw [Nat.pow_succ]; omega) (fun _ => by omega)
  have e3 : X * 2 ^ (c + 1) + (2 * Q + σ) = 2 * (2 ^ c * X + Q) + σ := by
    rw [Nat.pow_succ, ← Nat.mul_assoc, Nat.mul_comm X]; omega
  rw [e3] at ht
  rw [ht]
  simp only [hz]
  congr 1; omega

/-- r is the root of n, what is behind the point cut off. -/
def IsRoot (n r : Nat) : Prop := r * r ≤ n ∧ n < (r + 1) * (r + 1)
theorem root_one {n r s : Nat} (h : IsRoot n r) (h' : IsRoot n s) : r = s := by
  have lt_of : ∀ a b : Nat, a < b → (a + 1) * (a + 1) ≤ b * b := fun a b h => Nat.mul_le_mul h h
  rcases Nat.lt_trichotomy r s with g | g | g
  · have := lt_of r s g; have := h.2; have := h'.1; omega
  · exact g
  · have := lt_of s r g; have := h'.2; have := h.1; omega

theorem near_root (f : Format) (s : Bool) (n c r t : Nat) (pl : Int) (hr : IsRoot n r) (ht : IsRoot (2 ^ (2 * c) * n) t) (hB : 2 ^ (f.fractionBits + 1) ≤ r) :
    f.nearest s (2 * t + (decide (t * t ≠ 2 ^ (2 * c) * n)).toNat) pl = f.nearest s (2 * r + (decide (r * r ≠ n)).toNat) (pl + c) := by
  have hc : 0 < 2 ^ c := Nat.two_pow_pos c
  have e2 : 2 ^ (2 * c) = 2 ^ c * 2 ^ c := by rw [Nat.two_mul, Nat.pow_add]
  have hX : 0 < r := Nat.lt_of_lt_of_le (Nat.two_pow_pos _) hB
  -- t lies between r and r + 1, c digits further up
  have sq : ∀ a : Nat, (2 ^ c * a) * (2 ^ c * a) = 2 ^ (2 * c) * (a * a) := by
    intro a; rw [e2, Nat.mul_mul_mul_comm]
  have lo : 2 ^ c * r ≤ t := by
    rcases Nat.lt_or_ge t (2 ^ c * r) with h | h
    · exfalso
      have h1 : (t + 1) * (t + 1) ≤ (2 ^ c * r) * (2 ^ c * r) := Nat.mul_le_mul h h
      rw [sq] at h1
      have h2 : 2 ^ (2 * c) * (r * r) ≤ 2 ^ (2 * c) * n := Nat.mul_le_mul_left _ hr.1
      have := ht.2
      omega
    · exact h
  have hi : t < 2 ^ c * (r + 1) := by
    rcases Nat.lt_or_ge t (2 ^ c * (r + 1)) with h | h
    · exact h
    · exfalso
      have h1 : (2 ^ c * (r + 1)) * (2 ^ c * (r + 1)) ≤ t * t := Nat.mul_le_mul h h
      rw [sq] at h1
      have h2 : 2 ^ (2 * c) * n < 2 ^ (2 * c) * ((r + 1) * (r + 1)) := Nat.mul_lt_mul_of_pos_left hr.2 (Nat.two_pow_pos _)
      have := ht.1
      omega
  obtain ⟨Q, hQ⟩ : ∃ Q, t = 2 ^ c * r + Q := ⟨t - 2 ^ c * r, by omega⟩
  have hq : Q < 2 ^ c := by rw [Nat.mul_add, Nat.mul_one] at hi; omega
  have hz : 2 * Q + (decide (t * t ≠ 2 ^ (2 * c) * n)).toNat ≠ 0 ↔ r * r ≠ n := by
    constructor
    · rintro h rfl
      apply h
      have h3 : IsRoot (2 ^ (2 * c) * (r * r)) (2 ^ c * r) := by
        rw [← sq]
        exact ⟨Nat.le_refl _, Nat.mul_lt_mul_of_lt_of_le (by omega) (by omega) (by omega)⟩
      have h4 := root_one ht h3
      have h5 : Q = 0 := by omega
      rw [h5, h4, sq]; simp
    · intro h h'
      have h4 : Q = 0 := by omega
      have h5 : (decide (t * t ≠ 2 ^ (2 * c) * n)).toNat = 0 := by omega
      have h6 : t * t = 2 ^ (2 * c) * n := by
        by_cases h7 : t * t = 2 ^ (2 * c) * n
        · exact h7
        · simp [h7] at h5
      rw [hQ, h4, Nat.add_zero, sq] at h6
      exact h (Nat.eq_of_mul_eq_mul_left (Nat.two_pow_pos _) h6)
  have hb : (decide (t * t ≠ 2 ^ (2 * c) * n)).toNat ≤ 1 := Bool.toNat_le _
  generalize (decide (t * t ≠ 2 ^ (2 * c) * n)).toNat = σ at hz hb ⊢
  have hl := log2_ge hB
  have htr := nearest_trunc f s r (c + 1) (2 * Q + σ) pl hX (by rw [Nat.pow_succ]; omega) (fun _ => by omega)
  have e3 : r * 2 ^ (c + 1) + (2 * Q + σ) = 2 * t + σ := by
    rw [hQ, Nat.pow_succ, ← Nat.mul_assoc, Nat.mul_comm r]; omega
  rw [e3] at htr
  rw [htr]
  simp only [hz]
  congr 1; omega

/-- The model's root, tried digit by digit, is the root. -/
theorem rootFrom_is (n : Nat) : ∀ (todo root : Nat), root % 2 ^ todo = 0 → root * root ≤ n → n < (root + 2 ^ todo) * (root + 2 ^ todo) → IsRoot n (Datum.rootFrom n todo root)
  | 0, root, _, h1, h2 => ⟨h1, h2⟩
  | todo + 1, root, h0, h1, h2 => by
    unfold Datum.rootFrom
    rw [Nat.shiftLeft_eq, Nat.one_mul]
    have e : (2 : Nat) ^ (todo + 1) = 2 ^ todo + 2 ^ todo := by rw [Nat.pow_succ]; omega
    have hd : root % 2 ^ todo = 0 := by
      have : 2 ^ todo ∣ 2 ^ (todo + 1) := Nat.pow_dvd_pow 2 (by omega)
      exact Nat.mod_eq_zero_of_dvd (Nat.dvd_trans this (Nat.dvd_of_mod_eq_zero h0))
    dsimp only
    by_cases c : (root + 2 ^ todo) * (root + 2 ^ todo) ≤ n
    · rw [if_pos c]
      refine rootFrom_is n todo _ ?_ c ?_
      · rw [Nat.add_mod_right]; exact hd
      · rw [Nat.add_assoc, ← e]; exact h2
    · rw [if_neg c]
      exact rootFrom_is n todo root hd h1 (by omega)
theorem isqrt_model (n : Nat) : IsRoot n (Datum.rootFrom n (n.log2 / 2 + 1) 0) := by
  refine rootFrom_is n _ 0 (by simp) (by simp) ?_
  rw [Nat.zero_add, ← Nat.pow_add]
  have h := log2_lt' n
  exact Nat.lt_of_lt_of_le h (Nat.pow_le_pow_right (by decide) (by omega))
end Go.Proofs.Ytapfapngcncaeaa.Ie
