/- Plain facts on the reference's numbers of 128 bits: how many digits, shifts to the left and to the right. -/
import Derived.Test.YtapfapngcncaeaaQFx3
import Derived.Test.YtapfapngcncaeaaQFx2
import Derived.Test.YtapfapngcncaeaaNear
import Derived.Test.YtapfapngcncaeaaRf
namespace Go.Proofs.Ytapfapngcncaeaa.QF
open Go.RowKit Go.Proofs.YtapfapngcncaeaaW.PrintWords Go.Proofs.YtapfapngcncaeaaW.PrintLast Go.Proofs.YtapfapngcncaeaaW.PrintMore Go.Proofs.Ytapfapngcncaeaa.Ie Go.Proofs.Ytapfapngcncaeaa.Rf

/-- How many binary digits. -/
def len (m : Nat) : Nat := if m = 0 then 0 else m.log2 + 1
theorem len_half (m : Nat) (h : 0 < m) : len m = len (m / 2) + 1 := by
  unfold len
  rw [if_neg (by omega)]
  by_cases h1 : m / 2 = 0
  · rw [if_pos h1]
    have : m = 1 := by omega
    subst this; rfl
  · rw [if_neg h1]
    have h2 := Nat.log2_self_le h1
    have h3 := log2_lt' (m / 2)
    have : m.log2 = (m / 2).log2 + 1 := by
      rw [Nat.log2_eq_iff (by omega), Nat.pow_succ, Nat.pow_succ 2 ((m / 2).log2 + 1)]
      omega
    omega
theorem len_le (m j : Nat) (h : m < 2 ^ j) : len m ≤ j := by
  unfold len
  split
  · omega
  · rename_i h0
    have := (Nat.log2_lt h0).2 h
    omega
theorem lt_len (m : Nat) : m < 2 ^ len m := by
  unfold len
  split
  · rename_i h; subst h; decide
  · exact log2_lt' m

theorem bits_l0 : ∀ (k m : Nat) (n : Int), len m < k → 0 ≤ n → n + len m ≤ 1000 → ratchetref04_bits.l0 k (m : Int) n = some (n + len m)
  | 0, m, n, h, _, _ => by omega
  | k + 1, m, n, h, h0, h1 => by
    rw [ratchetref04_bits.l0]
    by_cases hm : 0 < m
    · have hh := len_half m hm
      rw [if_pos (by omega), show ((m : Int) / 2) = ((m / 2 : Nat) : Int) by omega, show wrap64 (n + 1) = n + 1 by unfold wrap64; omega]
      rw [bits_l0 k (m / 2) (n + 1) (by omega) (by omega) (by omega), hh]
      congr 1; omega
    · have : m = 0 := by omega
      subst this
      simp [len]
theorem bits_f (k m : Nat) (hk : 65 ≤ k) (h : m < 18446744073709551616) : ratchetref04_bits.f k (m : Int) = some (len m : Int) := by
  have hl := len_le m 64 h
  unfold ratchetref04_bits.f
  rw [bits_l0 k m 0 (by omega) (by omega) (by omega)]
  simp

/-- The two words of a number of 128 bits. -/
def hiW (w : Nat) : Int := ((w / 18446744073709551616 : Nat) : Int)
def loW (w : Nat) : Int := ((w % 18446744073709551616 : Nat) : Int)
theorem hiW_zero {w : Nat} (h : w < 18446744073709551616) : hiW w = 0 := by unfold hiW; omega
theorem loW_small {w : Nat} (h : w < 18446744073709551616) : loW w = w := by unfold loW; omega

theorem long_f (k w : Nat) (hk : 65 ≤ k) (more : Bool) (h : w < 340282366920938463463374607431768211456) : ratchetref04_wide_long.f k (hiW w) (loW w) more = some (len w : Int) := by
  unfold ratchetref04_wide_long.f
  by_cases h1 : w < 18446744073709551616
  · rw [hiW_zero h1, loW_small h1, if_neg (by omega), bits_f k w hk h1]; rfl
  · rw [if_pos (by unfold hiW; omega)]
    unfold hiW
    rw [bits_f k _ hk (by omega)]
    simp only [Option.bind_some, Option.some.injEq]
    have e : len w = 64 + len (w / 18446744073709551616) := by
      have h2 := lt_len (w / 18446744073709551616)
      unfold len at h2 ⊢
      rw [if_neg (by omega)] at h2 ⊢
      rw [if_neg (by omega)]
      have h3 := Nat.log2_self_le (n := w / 18446744073709551616) (by omega)
      generalize hx : (w / 18446744073709551616).log2 = x at h2 h3
      have : w.log2 = 64 + x := by
        rw [Nat.log2_eq_iff (by omega), Nat.pow_add, show 64 + x + 1 = 64 + (x + 1) by omega, Nat.pow_add]
        constructor
        · have : 2 ^ 64 * 2 ^ x ≤ 2 ^ 64 * (w / 18446744073709551616) := Nat.mul_le_mul_left _ h3
          omega
        · have : 2 ^ 64 * (w / 18446744073709551616 + 1) ≤ 2 ^ 64 * 2 ^ (x + 1) := Nat.mul_le_mul_left _ (by omega)
          omega
      omega
    have hl := len_le (w / 18446744073709551616) 64 (by omega)
    rw [e]; unfold wrap64; omega

theorem left_l0 : ∀ (d k : Nat) (n x w : Nat) (more : Bool), x + d = n → n ≤ 100000 → d < k → w < 340282366920938463463374607431768211456 →
    ratchetref04_wide_left.l0 k (n : Int) (x : Int) (hiW w) (loW w) more = some (hiW (w * 2 ^ d % 340282366920938463463374607431768211456), loW (w * 2 ^ d % 340282366920938463463374607431768211456), more)
  | 0, k, n, x, w, more, h, hn, hk, hw => by
    obtain ⟨k, rfl⟩ : ∃ m, k = m + 1 := ⟨k - 1, by omega⟩
    rw [ratchetref04_wide_left.l0, if_neg (by omega), Nat.pow_zero, Nat.mul_one, Nat.mod_eq_of_lt hw]
  | d + 1, k, n, x, w, more, h, hn, hk, hw => by
    obtain ⟨k, rfl⟩ : ∃ m, k = m + 1 := ⟨k - 1, by omega⟩
    rw [ratchetref04_wide_left.l0, if_pos (by omega), show wrap64 ((x : Int) + 1) = ((x + 1 : Nat) : Int) by unfold wrap64; omega]
    have e1 : IntKind.u64.wrap (IntKind.u64.wrap (hiW w * 2) + loW w / 9223372036854775808) = hiW (w * 2 % 340282366920938463463374607431768211456) := by
      rw [IntKind.wrap_u64, IntKind.wrap_u64]; unfold hiW loW; omega
    have e2 : IntKind.u64.wrap (loW w * 2) = loW (w * 2 % 340282366920938463463374607431768211456) := by
      rw [IntKind.wrap_u64]; unfold loW; omega
    rw [e1, e2, left_l0 d k n (x + 1) _ more (by omega) hn (by omega) (Nat.mod_lt _ (by decide))]
    have e3 : w * 2 % 340282366920938463463374607431768211456 * 2 ^ d % 340282366920938463463374607431768211456 = w * 2 ^ (d + 1) % 340282366920938463463374607431768211456 := by
      rw [Nat.mod_mul_mod, Nat.mul_assoc, ← Nat.pow_succ']
    rw [e3]
theorem left_f (k : Nat) (n : Int) (w : Nat) (more : Bool) (hn : n ≤ 100000) (hk : n < k) (hk0 : 0 < k) (hw : w < 340282366920938463463374607431768211456) :
    ratchetref04_wide_left.f k (hiW w) (loW w) more n = some (hiW (w * 2 ^ n.toNat % 340282366920938463463374607431768211456), loW (w * 2 ^ n.toNat % 340282366920938463463374607431768211456), more) := by
  unfold ratchetref04_wide_left.f
  by_cases h : 0 ≤ n
  · have := left_l0 n.toNat k n.toNat 0 w more (by omega) (by omega) (by omega) hw
    rw [show ((n.toNat : Nat) : Int) = n by omega] at this
    exact this
  · obtain ⟨k, rfl⟩ : ∃ m, k = m + 1 := ⟨k - 1, by omega⟩
    rw [ratchetref04_wide_left.l0, if_neg (by omega), show n.toNat = 0 by omega, Nat.pow_zero, Nat.mul_one, Nat.mod_eq_of_lt hw]

theorem and1 (x : Int) (h0 : 0 ≤ x) (h1 : x < 18446744073709551616) : bits .and .u64 x 1 = x % 2 := and_mask 1 (by decide) x h0 h1

theorem right_l0 : ∀ (j k : Nat) (n x : Int) (w : Nat) (more : Bool), w < 2 ^ j → j ≤ 128 → j < k → 0 ≤ x → n ≤ 1000000 →
    ratchetref04_wide_right.l0 k n x (hiW w) (loW w) more = some (hiW (w / 2 ^ (n - x).toNat), loW (w / 2 ^ (n - x).toNat), more || decide (w % 2 ^ (n - x).toNat ≠ 0))
  | 0, k, n, x, w, more, hw, hj, hk, hx, hn => by
    have : w = 0 := by omega
    subst this
    obtain ⟨k, rfl⟩ : ∃ m, k = m + 1 := ⟨k - 1, by omega⟩
    rw [ratchetref04_wide_right.l0]
    by_cases h : x < n
    · rw [if_pos h, if_neg (by unfold hiW; omega), if_neg (by unfold loW; omega)]; simp
    · rw [if_neg h]; simp
  | j + 1, k, n, x, w, more, hw, hj, hk, hx, hn => by
    obtain ⟨k, rfl⟩ : ∃ m, k = m + 1 := ⟨k - 1, by omega⟩
    have hp : (2 : Nat) ^ (j + 1) = 2 * 2 ^ j := by rw [Nat.pow_succ, Nat.mul_comm]
    have hb : (2 : Nat) ^ (j + 1) ≤ 2 ^ 128 := Nat.pow_le_pow_right (by decide) hj
    rw [ratchetref04_wide_right.l0]
    by_cases h : x < n
    · rw [if_pos h]
      by_cases h0 : w = 0
      · subst h0
        rw [if_neg (by unfold hiW; omega), if_neg (by unfold loW; omega)]; simp
      · have e1 : hiW w / 2 = hiW (w / 2) := by unfold hiW; omega
        have e2 : IntKind.u64.wrap (loW w / 2 + IntKind.u64.wrap (hiW w * 9223372036854775808)) = loW (w / 2) := by
          rw [IntKind.wrap_u64, IntKind.wrap_u64]; unfold hiW loW; omega
        have e3 : bits .and .u64 (loW w) 1 = loW w % 2 := and1 _ (by unfold loW; omega) (by unfold loW; omega)
        have e4 : ((loW w % 2) == 1) = decide (w % 2 = 1) := by
          unfold loW
          rw [Bool.eq_iff_iff, beq_iff_eq, decide_eq_true_iff]; omega
        have e5 : (n - x).toNat = (n - (x + 1)).toNat + 1 := by omega
        have e6 : w / 2 / 2 ^ (n - (x + 1)).toNat = w / 2 ^ (n - x).toNat := by rw [e5, Nat.pow_succ', Nat.div_div_eq_div_mul]
        have e7 : (decide (w % 2 = 1) || decide (w / 2 % 2 ^ (n - (x + 1)).toNat ≠ 0)) = decide (w % 2 ^ (n - x).toNat ≠ 0) := by
          rw [e5, Nat.pow_succ', Nat.mod_mul, Bool.eq_iff_iff]
          simp
          omega
        have ih := fun m => right_l0 j k n (x + 1) (w / 2) m (by omega) (by omega) (by omega) (by omega) hn
        rw [e1, e2, e3, e4, show wrap64 (x + 1) = x + 1 by unfold wrap64; omega, ih, ih, e6]
        have e8 : ((if more = true then (some (hiW (w / 2 ^ (n - x).toNat), loW (w / 2 ^ (n - x).toNat), true || decide (w / 2 % 2 ^ (n - (x + 1)).toNat ≠ 0))) else (some (hiW (w / 2 ^ (n - x).toNat), loW (w / 2 ^ (n - x).toNat), decide (w % 2 = 1) || decide (w / 2 % 2 ^ (n - (x + 1)).toNat ≠ 0))))) = some (hiW (w / 2 ^ (n - x).toNat), loW (w / 2 ^ (n - x).toNat), more || decide (w % 2 ^ (n - x).toNat ≠ 0)) := by
          rw [e7]; cases more <;> simp
        rw [e8]
        by_cases hh : hiW w > 0
        · rw [if_pos hh]
        · rw [if_neg hh, if_pos (by unfold hiW at hh; unfold loW; omega)]
    · rw [if_neg h, show (n - x).toNat = 0 by omega]
      simp [Nat.mod_one]
theorem right_f (k : Nat) (n : Int) (w : Nat) (more : Bool) (hn : n ≤ 1000000) (hk : 128 < k) (hw : w < 340282366920938463463374607431768211456) :
    ratchetref04_wide_right.f k (hiW w) (loW w) more n = some (hiW (w / 2 ^ n.toNat), loW (w / 2 ^ n.toNat), more || decide (w % 2 ^ n.toNat ≠ 0)) := by
  unfold ratchetref04_wide_right.f
  have := right_l0 128 k n 0 w more hw (by decide) hk (by decide) hn
  rw [Int.sub_zero] at this
  exact this
end Go.Proofs.Ytapfapngcncaeaa.QF
