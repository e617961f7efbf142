/- Plain: the sum and the difference of two finite floats, cut at sixty digits below the greater one, are rounded as the whole ones. -/
import Derived.Test.YtapfapngcncaeaaNear2
namespace Go.Proofs.Ytapfapngcncaeaa.Ie
open Ieee

theorem log2_ge {w n : Nat} (h : 2 ^ n ≤ w) : n ≤ w.log2 := by
  have h0 : w ≠ 0 := by have := Nat.two_pow_pos n; omega
  rcases Nat.lt_or_ge w.log2 n with h1 | h1
  · have := (Nat.log2_lt h0).1 h1; omega
  · exact h1

/-- The greater significand M (whole, if there is a distance of more than sixty), the other one N, d apart: what is kept, and whether something is cut off. -/
theorem far_bit (F N d : Nat) (hN : N < 2 ^ (F + 1)) (hr : N * 2 ^ 60 % 2 ^ d ≠ 0) : 60 < d ∧ N * 2 ^ 60 / 2 ^ d < 2 ^ F := by
  have hd : 60 < d := by
    rcases Nat.lt_or_ge 60 d with h | h
    · exact h
    · exfalso
      apply hr
      have e : (60 : Nat) = d + (60 - d) := by omega
      have e2 : N * 2 ^ 60 = 2 ^ d * (N * 2 ^ (60 - d)) := by
        have : (2 : Nat) ^ 60 = 2 ^ d * 2 ^ (60 - d) := by rw [← Nat.pow_add, ← e]
        rw [this, Nat.mul_left_comm]
      rw [e2, Nat.mul_mod_right]
  refine ⟨hd, ?_⟩
  rw [Nat.div_lt_iff_lt_mul (Nat.two_pow_pos _), ← Nat.pow_add]
  have h1 : N * 2 ^ 60 < 2 ^ (F + 1) * 2 ^ 60 := Nat.mul_lt_mul_of_pos_right hN (by decide)
  rw [← Nat.pow_add] at h1
  exact Nat.lt_of_lt_of_le h1 (Nat.pow_le_pow_right (by decide) (by omega))

theorem near_sum (f : Format) (s : Bool) (M N d : Nat) (l : Int) (hM0 : 0 < M) (hM : 60 < d → 2 ^ f.fractionBits ≤ M) (hN : N < 2 ^ (f.fractionBits + 1)) :
    0 < M * 2 ^ 60 + N * 2 ^ 60 / 2 ^ d ∧
    (decide (N * 2 ^ 60 % 2 ^ d ≠ 0) = true → 1 ≤ ((M * 2 ^ 60 + N * 2 ^ 60 / 2 ^ d).log2 : Int) - f.fractionBits) ∧
    f.nearest s (M * 2 ^ d + N) l = f.nearest s (2 * (M * 2 ^ 60 + N * 2 ^ 60 / 2 ^ d) + (decide (N * 2 ^ 60 % 2 ^ d ≠ 0)).toNat) (l + d - 60 - 1) := by
  have hX : 0 < M * 2 ^ 60 + N * 2 ^ 60 / 2 ^ d := Nat.add_pos_left (Nat.mul_pos hM0 (by decide)) _
  have hD : N * 2 ^ 60 % 2 ^ d ≠ 0 → 1 ≤ ((M * 2 ^ 60 + N * 2 ^ 60 / 2 ^ d).log2 : Int) - f.fractionBits := by
    intro hr
    have hM' := hM (far_bit f.fractionBits N d hN hr).1
    have h1 : 2 ^ (f.fractionBits + 60) ≤ M * 2 ^ 60 + N * 2 ^ 60 / 2 ^ d := by
      rw [Nat.pow_add]
      exact Nat.le_trans (Nat.mul_le_mul_right _ hM') (Nat.le_add_right _ _)
    have := log2_ge h1
    omega
  refine ⟨hX, fun h => hD (by simpa using h), ?_⟩
  have ht := nearest_trunc f s (M * 2 ^ 60 + N * 2 ^ 60 / 2 ^ d) d (N * 2 ^ 60 % 2 ^ d) (l - 60) hX (Nat.mod_lt _ (Nat.two_pow_pos _)) (fun h => by have := hD h; omega)
  have hs := nearest_scale f s (M * 2 ^ d + N) 60 l
  have e : (M * 2 ^ 60 + N * 2 ^ 60 / 2 ^ d) * 2 ^ d + N * 2 ^ 60 % 2 ^ d = (M * 2 ^ d + N) * 2 ^ 60 := by
    have h1 := Nat.div_add_mod (N * 2 ^ 60) (2 ^ d)
    rw [Nat.add_mul, Nat.add_mul, Nat.mul_right_comm M, Nat.mul_comm (N * 2 ^ 60 / 2 ^ d), Nat.add_assoc, h1]
  rw [e] at ht
  rw [← hs, show l - ((60 : Nat) : Int) = l - 60 by omega, ht]
  congr 1; omega

set_option maxRecDepth 10000 in
theorem near_diff (f : Format) (s : Bool) (M N d : Nat) (l : Int) (hM : 60 < d → 2 ^ f.fractionBits ≤ M) (hN : N < 2 ^ (f.fractionBits + 1)) (hle : N ≤ M * 2 ^ d) :
    N * 2 ^ 60 / 2 ^ d + (decide (N * 2 ^ 60 % 2 ^ d ≠ 0)).toNat ≤ M * 2 ^ 60 ∧
    (N = M * 2 ^ d → N * 2 ^ 60 % 2 ^ d = 0 ∧ N * 2 ^ 60 / 2 ^ d = M * 2 ^ 60) ∧
    (N < M * 2 ^ d → 0 < M * 2 ^ 60 - N * 2 ^ 60 / 2 ^ d - (decide (N * 2 ^ 60 % 2 ^ d ≠ 0)).toNat ∧
      (decide (N * 2 ^ 60 % 2 ^ d ≠ 0) = true → 1 ≤ ((M * 2 ^ 60 - N * 2 ^ 60 / 2 ^ d - (decide (N * 2 ^ 60 % 2 ^ d ≠ 0)).toNat).log2 : Int) - f.fractionBits) ∧
      f.nearest s (M * 2 ^ d - N) l = f.nearest s (2 * (M * 2 ^ 60 - N * 2 ^ 60 / 2 ^ d - (decide (N * 2 ^ 60 % 2 ^ d ≠ 0)).toNat) + (decide (N * 2 ^ 60 % 2 ^ d ≠ 0)).toNat) (l + d - 60 - 1)) := by
  have hp : 0 < 2 ^ d := Nat.two_pow_pos d
  have hfar := far_bit f.fractionBits N d hN
  have hdm := Nat.div_add_mod (N * 2 ^ 60) (2 ^ d)
  have hle2 : N * 2 ^ 60 ≤ 2 ^ d * (M * 2 ^ 60) := by
    have := Nat.mul_le_mul_right (2 ^ 60) hle
    rw [Nat.mul_comm M, Nat.mul_assoc] at this
    exact this
  have hml : N * 2 ^ 60 % 2 ^ d < 2 ^ d := Nat.mod_lt _ hp
  obtain ⟨V, hV⟩ : ∃ V, N * 2 ^ 60 / 2 ^ d = V := ⟨_, rfl⟩
  rw [hV] at hdm hfar ⊢
  obtain ⟨R, hR⟩ : ∃ R, N * 2 ^ 60 % 2 ^ d = R := ⟨_, rfl⟩
  rw [hR] at hdm hfar hml ⊢
  obtain ⟨W, hW⟩ : ∃ W, M * 2 ^ 60 = W := ⟨_, rfl⟩
  rw [hW] at hle2 ⊢
  have hVW : V + (decide (R ≠ 0)).toNat ≤ W := by
    by_cases h : R = 0
    · have : 2 ^ d * V ≤ 2 ^ d * W := by omega
      have := Nat.le_of_mul_le_mul_left this hp
      simp [h]; exact this
    · have : 2 ^ d * V < 2 ^ d * W := by omega
      have := Nat.lt_of_mul_lt_mul_left this
      simp [h]; omega
  refine ⟨hVW, ?_, ?_⟩
  · intro he
    have e : N * 2 ^ 60 = 2 ^ d * W := by rw [he, ← hW, Nat.mul_comm M, Nat.mul_assoc]
    constructor
    · rw [← hR, e, Nat.mul_mod_right]
    · rw [← hV, e, Nat.mul_div_cancel_left _ hp]
  · intro hlt
    have hlt2 : N * 2 ^ 60 < 2 ^ d * W := by
      have := Nat.mul_lt_mul_of_pos_right hlt (show 0 < 2 ^ 60 by decide)
      rw [Nat.mul_comm M, Nat.mul_assoc, hW] at this
      exact this
    have hX : 0 < W - V - (decide (R ≠ 0)).toNat := by
      by_cases h : R = 0
      · have : 2 ^ d * V < 2 ^ d * W := by omega
        have := Nat.lt_of_mul_lt_mul_left this
        simp [h]; omega
      · have hf := hfar h
        have hM' := hM hf.1
        have : 2 ^ f.fractionBits * 2 ^ 60 ≤ W := by rw [← hW]; exact Nat.mul_le_mul_right _ hM'
        simp [h]; omega
    have hD : R ≠ 0 → 1 ≤ ((W - V - (decide (R ≠ 0)).toNat).log2 : Int) - f.fractionBits := by
      intro h
      have hf := hfar h
      have hM' := hM hf.1
      have h1 : 2 ^ f.fractionBits * 2 ^ 60 ≤ W := by rw [← hW]; exact Nat.mul_le_mul_right _ hM'
      have h2 : 2 ^ (f.fractionBits + 1) ≤ W - V - (decide (R ≠ 0)).toNat := by
        rw [Nat.pow_succ]
        simp [h]; omega
      have := log2_ge h2
      omega
    refine ⟨hX, fun h => hD (by simpa using h), ?_⟩
    have hs := nearest_scale f s (M * 2 ^ d - N) 60 l
    have e0 : (M * 2 ^ d - N) * 2 ^ 60 = 2 ^ d * W - (2 ^ d * V + R) := by
      rw [Nat.sub_mul, hdm, ← hW, Nat.mul_comm M, Nat.mul_assoc]
    by_cases h : R = 0
    · subst h
      have ht := nearest_trunc f s (W - V) d 0 (l - 60) (by simpa using hX) (by omega) (fun h => absurd rfl h)
      have e : (W - V) * 2 ^ d + 0 = (M * 2 ^ d - N) * 2 ^ 60 := by
        rw [e0, Nat.sub_mul, Nat.mul_comm W, Nat.mul_comm V]; rfl
      rw [e] at ht
      rw [← hs, show l - ((60 : Nat) : Int) = l - 60 by omega, ht]
      simp only [ne_eq, not_true_eq_false, decide_false, Bool.toNat_false, Nat.sub_zero]
      congr 1; omega
    · have hd1 : (decide (R ≠ 0)).toNat = 1 := by simp [h]
      rw [hd1] at hX hVW hD ⊢
      have ht := nearest_trunc f s (W - V - 1) d (2 ^ d - R) (l - 60) hX (by omega) (fun _ => by have := hD h; omega)
      have e : (W - V - 1) * 2 ^ d + (2 ^ d - R) = (M * 2 ^ d - N) * 2 ^ 60 := by
        rw [e0]
        have h3 : (W - V - 1) * 2 ^ d = 2 ^ d * W - 2 ^ d * V - 2 ^ d := by
          rw [Nat.sub_mul, Nat.sub_mul, Nat.mul_comm W, Nat.mul_comm V, Nat.one_mul]
        have h4 : 2 ^ d * (V + 1) ≤ 2 ^ d * W := Nat.mul_le_mul_left _ (by omega)
        rw [Nat.mul_add, Nat.mul_one] at h4
        omega
      rw [e] at ht
      have h5 : decide (2 ^ d - R ≠ 0) = true := by simp; omega
      rw [h5] at ht
      rw [← hs, show l - ((60 : Nat) : Int) = l - 60 by omega, ht, Bool.toNat_true]
      congr 1; omega
/-! the same, the power first -/
theorem near_sum' (f : Format) (s : Bool) (M N d : Nat) (l : Int) (hM0 : 0 < M) (hM : 60 < d → 2 ^ f.fractionBits ≤ M) (hN : N < 2 ^ (f.fractionBits + 1)) :
    0 < 2 ^ 60 * M + 2 ^ 60 * N / 2 ^ d ∧
    (decide (2 ^ 60 * N % 2 ^ d ≠ 0) = true → 1 ≤ ((2 ^ 60 * M + 2 ^ 60 * N / 2 ^ d).log2 : Int) - f.fractionBits) ∧
    f.nearest s (M * 2 ^ d + N) l = f.nearest s (2 * (2 ^ 60 * M + 2 ^ 60 * N / 2 ^ d) + (decide (2 ^ 60 * N % 2 ^ d ≠ 0)).toNat) (l + d - 60 - 1) := by
  have h := near_sum f s M N d l hM0 hM hN
  rw [Nat.mul_comm M (2 ^ 60), Nat.mul_comm N (2 ^ 60)] at h
  exact h
theorem near_diff' (f : Format) (s : Bool) (M N d : Nat) (l : Int) (hM : 60 < d → 2 ^ f.fractionBits ≤ M) (hN : N < 2 ^ (f.fractionBits + 1)) (hle : N ≤ M * 2 ^ d) :
    2 ^ 60 * N / 2 ^ d + (decide (2 ^ 60 * N % 2 ^ d ≠ 0)).toNat ≤ 2 ^ 60 * M ∧
    (N = M * 2 ^ d → 2 ^ 60 * N % 2 ^ d = 0 ∧ 2 ^ 60 * N / 2 ^ d = 2 ^ 60 * M) ∧
    (N < M * 2 ^ d → 0 < 2 ^ 60 * M - 2 ^ 60 * N / 2 ^ d - (decide (2 ^ 60 * N % 2 ^ d ≠ 0)).toNat ∧
      (decide (2 ^ 60 * N % 2 ^ d ≠ 0) = true → 1 ≤ ((2 ^ 60 * M - 2 ^ 60 * N / 2 ^ d - (decide (2 ^ 60 * N % 2 ^ d ≠ 0)).toNat).log2 : Int) - f.fractionBits) ∧
      f.nearest s (M * 2 ^ d - N) l = f.nearest s (2 * (2 ^ 60 * M - 2 ^ 60 * N / 2 ^ d - (decide (2 ^ 60 * N % 2 ^ d ≠ 0)).toNat) + (decide (2 ^ 60 * N % 2 ^ d ≠ 0)).toNat) (l + d - 60 - 1)) := by
  have h := near_diff f s M N d l hM hN hle
  rw [Nat.mul_comm M (2 ^ 60), Nat.mul_comm N (2 ^ 60)] at h
  exact h
end Go.Proofs.Ytapfapngcncaeaa.Ie
