/- The reference's sums, products and quotients of finite floats are the model's. -/
import Derived.Test.YtapfapngcncaeaaQFx8
import Derived.Test.YtapfapngcncaeaaSum1
import Derived.Test.YtapfapngcncaeaaQuo0
namespace Go.Proofs.Ytapfapngcncaeaa.QF
open Go.RowKit Go.Proofs.YtapfapngcncaeaaW.PrintWords Go.Proofs.YtapfapngcncaeaaW.PrintLast Go.Proofs.YtapfapngcncaeaaW.PrintMore Go.Proofs.Ytapfapngcncaeaa.Ie Go.Proofs.Ytapfapngcncaeaa.Rf

theorem len_eq (m : Nat) (h : 0 < m) : len m = m.log2 + 1 := by unfold len; rw [if_neg (by omega)]


theorem exf_le_32 (r : Nat) (h : r < FloatKind.f32.format.infRung) : exf FloatKind.f32.format r ≤ 3000 := by
  unfold exf
  rw [show FloatKind.f32.format.binade = 8388608 by decide]
  rw [show FloatKind.f32.format.infRung = 2139095040 by decide] at h
  split <;> omega
theorem sum_32 (k : Nat) (hk : 500 ≤ k) (x y : Int) (hx0 : 0 ≤ x) (hx1 : x < 18446744073709551616) (hy0 : 0 ≤ y) (hy1 : y < 18446744073709551616)
    (hx : rung FloatKind.f32.format x.toNat < FloatKind.f32.format.infRung) (hy : rung FloatKind.f32.format y.toNat < FloatKind.f32.format.infRung) (hne : rung FloatKind.f32.format x.toNat ≠ 0 ∨ rung FloatKind.f32.format y.toNat ≠ 0) :
    ∃ v : Nat, FloatKind.f32.format.add x.toNat y.toNat = some v ∧ ratchetref04_Format_sum.f (k + 8) 23 8 x y = some (v : Int) := by
  have h1 := rung32 x hx0
  have h2 := rung32 y hy0
  unfold ratchetref04_Format_sum.f
  rw [size32 x hx0 hx1, size32 y hy0 hy1]
  simp only [Option.bind_some]
  by_cases c : x % 2147483648 < y % 2147483648
  · rw [if_pos c, Fl.add_comm]
    exact sum_j0_32 k hk y x hy0 hy1 hx0 hx1 hy hx (by omega) (by omega)
  · rw [if_neg c]
    exact sum_j0_32 k hk x y hx0 hx1 hy0 hy1 hx hy (by omega) (by omega)

theorem product_32 (k : Nat) (hk : 500 ≤ k) (x y : Int) (hx0 : 0 ≤ x) (hx1 : x < 18446744073709551616) (hy0 : 0 ≤ y) (hy1 : y < 18446744073709551616)
    (hx : rung FloatKind.f32.format x.toNat < FloatKind.f32.format.infRung) (hy : rung FloatKind.f32.format y.toNat < FloatKind.f32.format.infRung) :
    ∃ v : Nat, FloatKind.f32.format.mul x.toNat y.toNat = some v ∧ ratchetref04_Format_product.f (k + 6) 23 8 x y = some (v : Int) := by
  have hE := exf_le_32 _ hx
  have hG := exf_le_32 _ hy
  have hM := sgf_lt FloatKind.f32.format (rung FloatKind.f32.format x.toNat)
  have hN := sgf_lt FloatKind.f32.format (rung FloatKind.f32.format y.toNat)
  rw [show FloatKind.f32.format.binade = 8388608 by decide] at hM hN
  refine ⟨_, by unfold Ieee.Format.mul; rw [read_eq, read_eq, unword_parts FloatKind.f32.format _ _ hx, unword_parts FloatKind.f32.format _ _ hy]; rfl, ?_⟩
  unfold ratchetref04_Format_product.f
  rw [parts32 x hx0 hx1, parts32 y hy0 hy1, below32 x hx0 hx1, below32 y hy0 hy1, show FloatKind.f32.format.leastPlace = -149 by decide]
  simp only [Option.bind_some]
  generalize sgf FloatKind.f32.format (rung FloatKind.f32.format x.toNat) = M at hM ⊢
  generalize sgf FloatKind.f32.format (rung FloatKind.f32.format y.toNat) = N at hN ⊢
  generalize exf FloatKind.f32.format (rung FloatKind.f32.format x.toNat) = E at hE ⊢
  generalize exf FloatKind.f32.format (rung FloatKind.f32.format y.toNat) = G at hG ⊢
  generalize sgn FloatKind.f32.format x.toNat = s
  generalize sgn FloatKind.f32.format y.toNat = t
  rw [times_f (k + 6) M N (by omega) (by omega) (by omega), show wrap64 (-149 + (E : Int) + (-149 + (G : Int))) = -149 + (E : Int) + (-149 + (G : Int)) by unfold wrap64; omega]
  simp only [Option.bind_some]
  have hst : (s != t) = (s ^^ t) := by cases s <;> cases t <;> rfl
  have hMN : M * N < 340282366920938463463374607431768211456 := by
    have : M * N ≤ 16777216 * 16777216 := Nat.mul_le_mul (by omega) (by omega)
    omega
  rw [hst]
  by_cases h0 : M * N = 0
  · rw [h0, show hiW 0 = 0 by decide, show loW 0 = 0 by decide, round_zero32 k (by omega) _ _ (-149 + (E : Int) + (-149 + (G : Int))) (by omega) (by omega)]
    show some _ = some ((FloatKind.f32.format.nearest (s ^^ t) 0 _ : Nat) : Int)
    unfold Ieee.Format.nearest
    rw [if_pos rfl]
  · rw [round_pos32 k (by omega) _ _ (Nat.pos_of_ne_zero h0) hMN _ _ (by omega) (by omega) (fun h => by cases h)]
    have hs := nearest_scale FloatKind.f32.format (s ^^ t) (M * N) 1 (-149 + (E : Int) + (-149 + (G : Int)))
    rw [Nat.pow_one, Nat.mul_comm (M * N) 2] at hs
    show some _ = some ((FloatKind.f32.format.nearest (s ^^ t) (M * N) _ : Nat) : Int)
    rw [← hs]
    rfl

theorem quot_l0_32 (x y : Int) (hx0 : 0 ≤ x) (hx1 : x < 18446744073709551616) (hy0 : 0 ≤ y) (hy1 : y < 18446744073709551616) (A m' n : Nat) (e' d : Int)
    (hn : 0 < n) (hn2 : n < 9223372036854775808) (hm : m' < 18446744073709551616) (hA : A = 2 ^ 60 * m') (hAn : 0 < A / n)
    (he : -9000 ≤ e') (he2 : e' ≤ 9000) (hd : -4000 ≤ d) (hd2 : d ≤ 4000) (hcond : A % n ≠ 0 → 1 ≤ ((A / n).log2 : Int) - 23 ∧ -8000 ≤ e' - d ∧ e' - d ≤ 8000) (hed : -8000 ≤ e' - d ∧ e' - d ≤ 8000) :
    ∀ (t k : Nat), t ≤ 124 → 500 + 3 * t ≤ k →
    ratchetref04_Format_quotient.l0 (k + 8) x y (m' : Int) e' (n : Int) d ((t : Int) - 1) 23 8 (hiW (A / 2 ^ t / n)) (loW (A / 2 ^ t / n)) false (hiW (A / 2 ^ t % n)) (loW (A / 2 ^ t % n)) false
      = some ((FloatKind.f32.format.nearest (sgn FloatKind.f32.format x.toNat ^^ sgn FloatKind.f32.format y.toNat) (2 * (A / n) + (decide (A % n ≠ 0)).toNat) (e' - d - 60 - 1) : Nat) : Int)
  | 0, k, ht, hk => by
    rw [show k + 8 = (k + 7) + 1 from rfl, ratchetref04_Format_quotient.l0, if_neg (by omega), Nat.pow_zero, Nat.div_one]
    have hr : A % n < 18446744073709551616 := Nat.lt_trans (Nat.mod_lt _ hn) (by omega)
    rw [hiW_zero hr, loW_small hr, if_neg (by omega), below32 x hx0 hx1, below32 y hy0 hy1]
    simp only [Option.bind_some]
    have hst : (sgn FloatKind.f32.format x.toNat != sgn FloatKind.f32.format y.toNat) = (sgn FloatKind.f32.format x.toNat ^^ sgn FloatKind.f32.format y.toNat) := by cases sgn FloatKind.f32.format x.toNat <;> cases sgn FloatKind.f32.format y.toNat <;> rfl
    have hdec : decide (((A % n : Nat) : Int) > 0) = decide (A % n ≠ 0) := by rw [decide_eq_decide]; omega
    have hAlt : A < 2 ^ 60 * 18446744073709551616 := by rw [hA]; exact Nat.mul_lt_mul_of_pos_left hm (by decide)
    have hQ : A / n < 340282366920938463463374607431768211456 := Nat.lt_of_le_of_lt (Nat.div_le_self _ _) (by omega)
    rw [hst, hdec, show wrap64 (wrap64 (e' - d) - 60) = e' - d - 60 by (rw [show wrap64 (e' - d) = e' - d by unfold wrap64; omega]; unfold wrap64; omega)]
    rw [round_pos32 (k + 1) (by omega) _ _ hAn hQ _ (e' - d - 60) (by omega) (by omega) (fun h => by have := (hcond (by simpa using h)).1; omega)]
    rfl
  | t + 1, k, ht, hk => by
    obtain ⟨k, rfl⟩ : ∃ j, k = j + 3 := ⟨k - 3, by omega⟩
    have hr : A / 2 ^ (t + 1) % n < n := Nat.mod_lt _ hn
    have hdm := Nat.div_add_mod (A / 2 ^ (t + 1)) n
    have hstep : A / 2 ^ t = 2 * (A / 2 ^ (t + 1)) + A / 2 ^ t % 2 := by
      rw [Nat.pow_succ, ← Nat.div_div_eq_div_mul]; omega
    have hAlt : A < 2 ^ 60 * 18446744073709551616 := by rw [hA]; exact Nat.mul_lt_mul_of_pos_left hm (by decide)
    have hqle : A / 2 ^ (t + 1) / n ≤ A := Nat.le_trans (Nat.div_le_self _ _) (Nat.div_le_self _ _)
    have hbit : A / 2 ^ t % 2 = 0 ∨ A / 2 ^ t % 2 = 1 := by omega
    -- the quotient and the remainder of one digit more
    have hnext : A / 2 ^ t = n * (2 * (A / 2 ^ (t + 1) / n)) + (2 * (A / 2 ^ (t + 1) % n) + A / 2 ^ t % 2) := by
      rw [Nat.mul_left_comm, Nat.add_comm, Nat.add_assoc, Nat.add_comm (A / 2 ^ t % 2), ← Nat.add_assoc, Nat.add_comm (2 * (A / 2 ^ (t + 1) % n)), ← Nat.mul_add, hdm]; exact hstep
    rw [show k + 3 + 8 = (k + 10) + 1 from rfl, ratchetref04_Format_quotient.l0, if_pos (by omega), left_f (k + 10) 1 _ false (by omega) (by omega) (by omega) (Nat.lt_of_lt_of_le hr (by omega))]
    simp only [Option.bind_some]
    rw [show Int.toNat 1 = 1 from rfl, Nat.pow_one, Nat.mod_eq_of_lt (a := A / 2 ^ (t + 1) % n * 2) (by omega), show (((t + 1 : Nat) : Int) - 1) = (t : Int) by omega]
    have hj1 : ∀ b : Bool, b = decide (A / 2 ^ t % 2 = 1) → ratchetref04_Format_quotient.j1 (k + 10) x y (m' : Int) e' (n : Int) d (t : Int) b 23 8 (hiW (A / 2 ^ (t + 1) / n)) (loW (A / 2 ^ (t + 1) / n)) false (hiW (A / 2 ^ (t + 1) % n * 2)) (loW (A / 2 ^ (t + 1) % n * 2)) false
        = some ((FloatKind.f32.format.nearest (sgn FloatKind.f32.format x.toNat ^^ sgn FloatKind.f32.format y.toNat) (2 * (A / n) + (decide (A % n ≠ 0)).toNat) (e' - d - 60 - 1) : Nat) : Int) := by
      intro b hb
      have hj2 : ratchetref04_Format_quotient.j1 (k + 10) x y (m' : Int) e' (n : Int) d (t : Int) b 23 8 (hiW (A / 2 ^ (t + 1) / n)) (loW (A / 2 ^ (t + 1) / n)) false (hiW (A / 2 ^ (t + 1) % n * 2)) (loW (A / 2 ^ (t + 1) % n * 2)) false
          = ratchetref04_Format_quotient.j2 (k + 8 + 1) x y (m' : Int) e' (n : Int) d (t : Int) 23 8 (hiW (A / 2 ^ (t + 1) / n)) (loW (A / 2 ^ (t + 1) / n)) false (hiW (2 * (A / 2 ^ (t + 1) % n) + A / 2 ^ t % 2)) (loW (2 * (A / 2 ^ (t + 1) % n) + A / 2 ^ t % 2)) false := by
        rw [show k + 10 = (k + 9) + 1 from rfl, ratchetref04_Format_quotient.j1, hb, Nat.mul_comm _ 2]
        rcases hbit with h | h
        · rw [h]; rfl
        · rw [h, if_pos (by decide)]
          have e1 : hiW (2 * (A / 2 ^ (t + 1) % n)) = hiW (2 * (A / 2 ^ (t + 1) % n) + 1) := by unfold hiW; omega
          have e2 : IntKind.u64.wrap (loW (2 * (A / 2 ^ (t + 1) % n)) + 1) = loW (2 * (A / 2 ^ (t + 1) % n) + 1) := by rw [IntKind.wrap_u64]; unfold loW; omega
          rw [e1, e2]
      rw [hj2, ratchetref04_Format_quotient.j2, left_f (k + 8) 1 _ false (by omega) (by omega) (by omega) (by omega)]
      simp only [Option.bind_some]
      have hQ2 : 2 * (A / 2 ^ (t + 1) / n) < 340282366920938463463374607431768211455 := by omega
      rw [show Int.toNat 1 = 1 from rfl, Nat.pow_one, Nat.mul_comm _ 2, Nat.mod_eq_of_lt (a := 2 * (A / 2 ^ (t + 1) / n)) (by omega)]
      have hl := less_f (2 * (A / 2 ^ (t + 1) % n) + A / 2 ^ t % 2) n false false
      rw [hiW_zero (w := n) (by omega), loW_small (w := n) (by omega)] at hl
      rw [hl]
      simp only [Option.bind_some]
      rw [show wrap64 ((t : Int) - 1) = (t : Int) - 1 by unfold wrap64; omega]
      by_cases c : 2 * (A / 2 ^ (t + 1) % n) + A / 2 ^ t % 2 < n
      · rw [if_pos (by simpa using c)]
        have e1 : A / 2 ^ t / n = 2 * (A / 2 ^ (t + 1) / n) := by rw [hnext, Nat.mul_add_div hn, Nat.div_eq_of_lt c, Nat.add_zero]
        have e2 : A / 2 ^ t % n = 2 * (A / 2 ^ (t + 1) % n) + A / 2 ^ t % 2 := by
          have h7 := Nat.div_add_mod (A / 2 ^ t) n
          rw [e1] at h7
          have h8 := hnext
          omega
        rw [← e1, ← e2]
        exact quot_l0_32 x y hx0 hx1 hy0 hy1 A m' n e' d hn hn2 hm hA hAn he he2 hd hd2 hcond hed t k (by omega) (by omega)
      · rw [if_neg (by simpa using c)]
        have hm1 := minus_f (k + 7) (2 * (A / 2 ^ (t + 1) % n) + A / 2 ^ t % 2) n false false (by omega) (by simpa using Nat.le_of_not_lt c)
        rw [hiW_zero (w := n) (by omega), loW_small (w := n) (by omega), Bool.toNat_false, Nat.sub_zero, Bool.or_self] at hm1
        rw [show k + 8 = (k + 7) + 1 from rfl, hm1]
        simp only [Option.bind_some]
        have h9 : 2 * (A / 2 ^ (t + 1) % n) + A / 2 ^ t % 2 - n < n := by omega
        have hnext2 : A / 2 ^ t = n * (2 * (A / 2 ^ (t + 1) / n) + 1) + (2 * (A / 2 ^ (t + 1) % n) + A / 2 ^ t % 2 - n) := by
          rw [Nat.mul_add, Nat.mul_one]
          have h8 := hnext
          omega
        have e1 : A / 2 ^ t / n = 2 * (A / 2 ^ (t + 1) / n) + 1 := by
          rw [hnext2, Nat.mul_add_div hn, Nat.div_eq_of_lt h9, Nat.add_zero]
        have e2 : A / 2 ^ t % n = 2 * (A / 2 ^ (t + 1) % n) + A / 2 ^ t % 2 - n := by
          have h7 := Nat.div_add_mod (A / 2 ^ t) n
          rw [e1] at h7
          omega
        have e3 : hiW (2 * (A / 2 ^ (t + 1) / n)) = hiW (2 * (A / 2 ^ (t + 1) / n) + 1) := by unfold hiW; omega
        have e4 : IntKind.u64.wrap (loW (2 * (A / 2 ^ (t + 1) / n)) + 1) = loW (2 * (A / 2 ^ (t + 1) / n) + 1) := by rw [IntKind.wrap_u64]; unfold loW; omega
        rw [e3, e4, ← e1, ← e2]
        exact quot_l0_32 x y hx0 hx1 hy0 hy1 A m' n e' d hn hn2 hm hA hAn he he2 hd hd2 hcond hed t k (by omega) (by omega)
    by_cases c : (t : Int) ≥ 60
    · rw [if_pos c, show wrap64 ((t : Int) - 60) = ((t - 60 : Nat) : Int) by unfold wrap64; omega, show IntKind.u64.wrap (((t - 60 : Nat) : Int)) = ((t - 60 : Nat) : Int) by rw [IntKind.wrap_u64]; omega, if_pos (by omega)]
      refine hj1 _ ?_
      have hs : shr .u64 (m' : Int) ((t - 60 : Nat) : Int) = ((m' / 2 ^ (t - 60) : Nat) : Int) := by
        unfold shr
        rw [show min (((t - 60 : Nat) : Int)).toNat IntKind.u64.bits = t - 60 by show min (((t - 60 : Nat) : Int)).toNat 64 = t - 60; omega]
        rw [Int.natCast_ediv, Int.natCast_pow]; rfl
      have hle : m' / 2 ^ (t - 60) ≤ m' := Nat.div_le_self _ _
      have hAt : A / 2 ^ t = m' / 2 ^ (t - 60) := by
        have e : t = 60 + (t - 60) := by omega
        have e5 : (2 : Nat) ^ t = 2 ^ 60 * 2 ^ (t - 60) := by rw [← Nat.pow_add, ← e]
        rw [e5, ← Nat.div_div_eq_div_mul, hA, Nat.mul_div_cancel_left _ (by decide)]
      rw [hs, and1 _ (by omega) (by omega), hAt]
      rw [Bool.eq_iff_iff, beq_iff_eq, decide_eq_true_iff]; omega
    · rw [if_neg c]
      refine hj1 _ ?_
      have e : (60 : Nat) = t + 1 + (59 - t) := by omega
      have hA2 : A / 2 ^ t % 2 = 0 := by
        have e5 : (2 : Nat) ^ 60 = 2 ^ t * (2 * 2 ^ (59 - t)) := by
          rw [← Nat.mul_assoc, ← Nat.pow_succ, ← Nat.pow_add, ← e]
        rw [hA, e5, Nat.mul_assoc, Nat.mul_div_cancel_left _ (Nat.two_pow_pos _), Nat.mul_assoc, Nat.mul_mod_right]
      rw [hA2]; rfl


theorem exf_le_64 (r : Nat) (h : r < FloatKind.f64.format.infRung) : exf FloatKind.f64.format r ≤ 3000 := by
  unfold exf
  rw [show FloatKind.f64.format.binade = 4503599627370496 by decide]
  rw [show FloatKind.f64.format.infRung = 9218868437227405312 by decide] at h
  split <;> omega
theorem sum_64 (k : Nat) (hk : 500 ≤ k) (x y : Int) (hx0 : 0 ≤ x) (hx1 : x < 18446744073709551616) (hy0 : 0 ≤ y) (hy1 : y < 18446744073709551616)
    (hx : rung FloatKind.f64.format x.toNat < FloatKind.f64.format.infRung) (hy : rung FloatKind.f64.format y.toNat < FloatKind.f64.format.infRung) (hne : rung FloatKind.f64.format x.toNat ≠ 0 ∨ rung FloatKind.f64.format y.toNat ≠ 0) :
    ∃ v : Nat, FloatKind.f64.format.add x.toNat y.toNat = some v ∧ ratchetref04_Format_sum.f (k + 8) 52 11 x y = some (v : Int) := by
  have h1 := rung64 x hx0
  have h2 := rung64 y hy0
  unfold ratchetref04_Format_sum.f
  rw [size64 x hx0 hx1, size64 y hy0 hy1]
  simp only [Option.bind_some]
  by_cases c : x % 9223372036854775808 < y % 9223372036854775808
  · rw [if_pos c, Fl.add_comm]
    exact sum_j0_64 k hk y x hy0 hy1 hx0 hx1 hy hx (by omega) (by omega)
  · rw [if_neg c]
    exact sum_j0_64 k hk x y hx0 hx1 hy0 hy1 hx hy (by omega) (by omega)

theorem product_64 (k : Nat) (hk : 500 ≤ k) (x y : Int) (hx0 : 0 ≤ x) (hx1 : x < 18446744073709551616) (hy0 : 0 ≤ y) (hy1 : y < 18446744073709551616)
    (hx : rung FloatKind.f64.format x.toNat < FloatKind.f64.format.infRung) (hy : rung FloatKind.f64.format y.toNat < FloatKind.f64.format.infRung) :
    ∃ v : Nat, FloatKind.f64.format.mul x.toNat y.toNat = some v ∧ ratchetref04_Format_product.f (k + 6) 52 11 x y = some (v : Int) := by
  have hE := exf_le_64 _ hx
  have hG := exf_le_64 _ hy
  have hM := sgf_lt FloatKind.f64.format (rung FloatKind.f64.format x.toNat)
  have hN := sgf_lt FloatKind.f64.format (rung FloatKind.f64.format y.toNat)
  rw [show FloatKind.f64.format.binade = 4503599627370496 by decide] at hM hN
  refine ⟨_, by unfold Ieee.Format.mul; rw [read_eq, read_eq, unword_parts FloatKind.f64.format _ _ hx, unword_parts FloatKind.f64.format _ _ hy]; rfl, ?_⟩
  unfold ratchetref04_Format_product.f
  rw [parts64 x hx0 hx1, parts64 y hy0 hy1, below64 x hx0 hx1, below64 y hy0 hy1, show FloatKind.f64.format.leastPlace = -1074 by decide]
  simp only [Option.bind_some]
  generalize sgf FloatKind.f64.format (rung FloatKind.f64.format x.toNat) = M at hM ⊢
  generalize sgf FloatKind.f64.format (rung FloatKind.f64.format y.toNat) = N at hN ⊢
  generalize exf FloatKind.f64.format (rung FloatKind.f64.format x.toNat) = E at hE ⊢
  generalize exf FloatKind.f64.format (rung FloatKind.f64.format y.toNat) = G at hG ⊢
  generalize sgn FloatKind.f64.format x.toNat = s
  generalize sgn FloatKind.f64.format y.toNat = t
  rw [times_f (k + 6) M N (by omega) (by omega) (by omega), show wrap64 (-1074 + (E : Int) + (-1074 + (G : Int))) = -1074 + (E : Int) + (-1074 + (G : Int)) by unfold wrap64; omega]
  simp only [Option.bind_some]
  have hst : (s != t) = (s ^^ t) := by cases s <;> cases t <;> rfl
  have hMN : M * N < 340282366920938463463374607431768211456 := by
    have : M * N ≤ 9007199254740992 * 9007199254740992 := Nat.mul_le_mul (by omega) (by omega)
    omega
  rw [hst]
  by_cases h0 : M * N = 0
  · rw [h0, show hiW 0 = 0 by decide, show loW 0 = 0 by decide, round_zero64 k (by omega) _ _ (-1074 + (E : Int) + (-1074 + (G : Int))) (by omega) (by omega)]
    show some _ = some ((FloatKind.f64.format.nearest (s ^^ t) 0 _ : Nat) : Int)
    unfold Ieee.Format.nearest
    rw [if_pos rfl]
  · rw [round_pos64 k (by omega) _ _ (Nat.pos_of_ne_zero h0) hMN _ _ (by omega) (by omega) (fun h => by cases h)]
    have hs := nearest_scale FloatKind.f64.format (s ^^ t) (M * N) 1 (-1074 + (E : Int) + (-1074 + (G : Int)))
    rw [Nat.pow_one, Nat.mul_comm (M * N) 2] at hs
    show some _ = some ((FloatKind.f64.format.nearest (s ^^ t) (M * N) _ : Nat) : Int)
    rw [← hs]
    rfl

theorem quot_l0_64 (x y : Int) (hx0 : 0 ≤ x) (hx1 : x < 18446744073709551616) (hy0 : 0 ≤ y) (hy1 : y < 18446744073709551616) (A m' n : Nat) (e' d : Int)
    (hn : 0 < n) (hn2 : n < 9223372036854775808) (hm : m' < 18446744073709551616) (hA : A = 2 ^ 60 * m') (hAn : 0 < A / n)
    (he : -9000 ≤ e') (he2 : e' ≤ 9000) (hd : -4000 ≤ d) (hd2 : d ≤ 4000) (hcond : A % n ≠ 0 → 1 ≤ ((A / n).log2 : Int) - 52 ∧ -8000 ≤ e' - d ∧ e' - d ≤ 8000) (hed : -8000 ≤ e' - d ∧ e' - d ≤ 8000) :
    ∀ (t k : Nat), t ≤ 124 → 500 + 3 * t ≤ k →
    ratchetref04_Format_quotient.l0 (k + 8) x y (m' : Int) e' (n : Int) d ((t : Int) - 1) 52 11 (hiW (A / 2 ^ t / n)) (loW (A / 2 ^ t / n)) false (hiW (A / 2 ^ t % n)) (loW (A / 2 ^ t % n)) false
      = some ((FloatKind.f64.format.nearest (sgn FloatKind.f64.format x.toNat ^^ sgn FloatKind.f64.format y.toNat) (2 * (A / n) + (decide (A % n ≠ 0)).toNat) (e' - d - 60 - 1) : Nat) : Int)
  | 0, k, ht, hk => by
    rw [show k + 8 = (k + 7) + 1 from rfl, ratchetref04_Format_quotient.l0, if_neg (by omega), Nat.pow_zero, Nat.div_one]
    have hr : A % n < 18446744073709551616 := Nat.lt_trans (Nat.mod_lt _ hn) (by omega)
    rw [hiW_zero hr, loW_small hr, if_neg (by omega), below64 x hx0 hx1, below64 y hy0 hy1]
    simp only [Option.bind_some]
    have hst : (sgn FloatKind.f64.format x.toNat != sgn FloatKind.f64.format y.toNat) = (sgn FloatKind.f64.format x.toNat ^^ sgn FloatKind.f64.format y.toNat) := by cases sgn FloatKind.f64.format x.toNat <;> cases sgn FloatKind.f64.format y.toNat <;> rfl
    have hdec : decide (((A % n : Nat) : Int) > 0) = decide (A % n ≠ 0) := by rw [decide_eq_decide]; omega
    have hAlt : A < 2 ^ 60 * 18446744073709551616 := by rw [hA]; exact Nat.mul_lt_mul_of_pos_left hm (by decide)
    have hQ : A / n < 340282366920938463463374607431768211456 := Nat.lt_of_le_of_lt (Nat.div_le_self _ _) (by omega)
    rw [hst, hdec, show wrap64 (wrap64 (e' - d) - 60) = e' - d - 60 by (rw [show wrap64 (e' - d) = e' - d by unfold wrap64; omega]; unfold wrap64; omega)]
    rw [round_pos64 (k + 1) (by omega) _ _ hAn hQ _ (e' - d - 60) (by omega) (by omega) (fun h => by have := (hcond (by simpa using h)).1; omega)]
    rfl
  | t + 1, k, ht, hk => by
    obtain ⟨k, rfl⟩ : ∃ j, k = j + 3 := ⟨k - 3, by omega⟩
    have hr : A / 2 ^ (t + 1) % n < n := Nat.mod_lt _ hn
    have hdm := Nat.div_add_mod (A / 2 ^ (t + 1)) n
    have hstep : A / 2 ^ t = 2 * (A / 2 ^ (t + 1)) + A / 2 ^ t % 2 := by
      rw [Nat.pow_succ, ← Nat.div_div_eq_div_mul]; omega
    have hAlt : A < 2 ^ 60 * 18446744073709551616 := by rw [hA]; exact Nat.mul_lt_mul_of_pos_left hm (by decide)
    have hqle : A / 2 ^ (t + 1) / n ≤ A := Nat.le_trans (Nat.div_le_self _ _) (Nat.div_le_self _ _)
    have hbit : A / 2 ^ t % 2 = 0 ∨ A / 2 ^ t % 2 = 1 := by omega
    -- the quotient and the remainder of one digit more
    have hnext : A / 2 ^ t = n * (2 * (A / 2 ^ (t + 1) / n)) + (2 * (A / 2 ^ (t + 1) % n) + A / 2 ^ t % 2) := by
      rw [Nat.mul_left_comm, Nat.add_comm, Nat.add_assoc, Nat.add_comm (A / 2 ^ t % 2), ← Nat.add_assoc, Nat.add_comm (2 * (A / 2 ^ (t + 1) % n)), ← Nat.mul_add, hdm]; exact hstep
    rw [show k + 3 + 8 = (k + 10) + 1 from rfl, ratchetref04_Format_quotient.l0, if_pos (by omega), left_f (k + 10) 1 _ false (by omega) (by omega) (by omega) (Nat.lt_of_lt_of_le hr (by omega))]
    simp only [Option.bind_some]
    rw [show Int.toNat 1 = 1 from rfl, Nat.pow_one, Nat.mod_eq_of_lt (a := A / 2 ^ (t + 1) % n * 2) (by omega), show (((t + 1 : Nat) : Int) - 1) = (t : Int) by omega]
    have hj1 : ∀ b : Bool, b = decide (A / 2 ^ t % 2 = 1) → ratchetref04_Format_quotient.j1 (k + 10) x y (m' : Int) e' (n : Int) d (t : Int) b 52 11 (hiW (A / 2 ^ (t + 1) / n)) (loW (A / 2 ^ (t + 1) / n)) false (hiW (A / 2 ^ (t + 1) % n * 2)) (loW (A / 2 ^ (t + 1) % n * 2)) false
        = some ((FloatKind.f64.format.nearest (sgn FloatKind.f64.format x.toNat ^^ sgn FloatKind.f64.format y.toNat) (2 * (A / n) + (decide (A % n ≠ 0)).toNat) (e' - d - 60 - 1) : Nat) : Int) := by
      intro b hb
      have hj2 : ratchetref04_Format_quotient.j1 (k + 10) x y (m' : Int) e' (n : Int) d (t : Int) b 52 11 (hiW (A / 2 ^ (t + 1) / n)) (loW (A / 2 ^ (t + 1) / n)) false (hiW (A / 2 ^ (t + 1) % n * 2)) (loW (A / 2 ^ (t + 1) % n * 2)) false
          = ratchetref04_Format_quotient.j2 (k + 8 + 1) x y (m' : Int) e' (n : Int) d (t : Int) 52 11 (hiW (A / 2 ^ (t + 1) / n)) (loW (A / 2 ^ (t + 1) / n)) false (hiW (2 * (A / 2 ^ (t + 1) % n) + A / 2 ^ t % 2)) (loW (2 * (A / 2 ^ (t + 1) % n) + A / 2 ^ t % 2)) false := by
        rw [show k + 10 = (k + 9) + 1 from rfl, ratchetref04_Format_quotient.j1, hb, Nat.mul_comm _ 2]
        rcases hbit with h | h
        · rw [h]; rfl
        · rw [h, if_pos (by decide)]
          have e1 : hiW (2 * (A / 2 ^ (t + 1) % n)) = hiW (2 * (A / 2 ^ (t + 1) % n) + 1) := by unfold hiW; omega
          have e2 : IntKind.u64.wrap (loW (2 * (A / 2 ^ (t + 1) % n)) + 1) = loW (2 * (A / 2 ^ (t + 1) % n) + 1) := by rw [IntKind.wrap_u64]; unfold loW; omega
          rw [e1, e2]
      rw [hj2, ratchetref04_Format_quotient.j2, left_f (k + 8) 1 _ false (by omega) (by omega) (by omega) (by omega)]
      simp only [Option.bind_some]
      have hQ2 : 2 * (A / 2 ^ (t + 1) / n) < 340282366920938463463374607431768211455 := by omega
      rw [show Int.toNat 1 = 1 from rfl, Nat.pow_one, Nat.mul_comm _ 2, Nat.mod_eq_of_lt (a := 2 * (A / 2 ^ (t + 1) / n)) (by omega)]
      have hl := less_f (2 * (A / 2 ^ (t + 1) % n) + A / 2 ^ t % 2) n false false
      rw [hiW_zero (w := n) (by omega), loW_small (w := n) (by omega)] at hl
      rw [hl]
      simp only [Option.bind_some]
      rw [show wrap64 ((t : Int) - 1) = (t : Int) - 1 by unfold wrap64; omega]
      by_cases c : 2 * (A / 2 ^ (t + 1) % n) + A / 2 ^ t % 2 < n
      · rw [if_pos (by simpa using c)]
        have e1 : A / 2 ^ t / n = 2 * (A / 2 ^ (t + 1) / n) := by rw [hnext, Nat.mul_add_div hn, Nat.div_eq_of_lt c, Nat.add_zero]
        have e2 : A / 2 ^ t % n = 2 * (A / 2 ^ (t + 1) % n) + A / 2 ^ t % 2 := by
          have h7 := Nat.div_add_mod (A / 2 ^ t) n
          rw [e1] at h7
          have h8 := hnext
          omega
        rw [← e1, ← e2]
        exact quot_l0_64 x y hx0 hx1 hy0 hy1 A m' n e' d hn hn2 hm hA hAn he he2 hd hd2 hcond hed t k (by omega) (by omega)
      · rw [if_neg (by simpa using c)]
        have hm1 := minus_f (k + 7) (2 * (A / 2 ^ (t + 1) % n) + A / 2 ^ t % 2) n false false (by omega) (by simpa using Nat.le_of_not_lt c)
        rw [hiW_zero (w := n) (by omega), loW_small (w := n) (by omega), Bool.toNat_false, Nat.sub_zero, Bool.or_self] at hm1
        rw [show k + 8 = (k + 7) + 1 from rfl, hm1]
        simp only [Option.bind_some]
        have h9 : 2 * (A / 2 ^ (t + 1) % n) + A / 2 ^ t % 2 - n < n := by omega
        have hnext2 : A / 2 ^ t = n * (2 * (A / 2 ^ (t + 1) / n) + 1) + (2 * (A / 2 ^ (t + 1) % n) + A / 2 ^ t % 2 - n) := by
          rw [Nat.mul_add, Nat.mul_one]
          have h8 := hnext
          omega
        have e1 : A / 2 ^ t / n = 2 * (A / 2 ^ (t + 1) / n) + 1 := by
          rw [hnext2, Nat.mul_add_div hn, Nat.div_eq_of_lt h9, Nat.add_zero]
        have e2 : A / 2 ^ t % n = 2 * (A / 2 ^ (t + 1) % n) + A / 2 ^ t % 2 - n := by
          have h7 := Nat.div_add_mod (A / 2 ^ t) n
          rw [e1] at h7
          omega
        have e3 : hiW (2 * (A / 2 ^ (t + 1) / n)) = hiW (2 * (A / 2 ^ (t + 1) / n) + 1) := by unfold hiW; omega
        have e4 : IntKind.u64.wrap (loW (2 * (A / 2 ^ (t + 1) / n)) + 1) = loW (2 * (A / 2 ^ (t + 1) / n) + 1) := by rw [IntKind.wrap_u64]; unfold loW; omega
        rw [e3, e4, ← e1, ← e2]
        exact quot_l0_64 x y hx0 hx1 hy0 hy1 A m' n e' d hn hn2 hm hA hAn he he2 hd hd2 hcond hed t k (by omega) (by omega)
    by_cases c : (t : Int) ≥ 60
    · rw [if_pos c, show wrap64 ((t : Int) - 60) = ((t - 60 : Nat) : Int) by unfold wrap64; omega, show IntKind.u64.wrap (((t - 60 : Nat) : Int)) = ((t - 60 : Nat) : Int) by rw [IntKind.wrap_u64]; omega, if_pos (by omega)]
      refine hj1 _ ?_
      have hs : shr .u64 (m' : Int) ((t - 60 : Nat) : Int) = ((m' / 2 ^ (t - 60) : Nat) : Int) := by
        unfold shr
        rw [show min (((t - 60 : Nat) : Int)).toNat IntKind.u64.bits = t - 60 by show min (((t - 60 : Nat) : Int)).toNat 64 = t - 60; omega]
        rw [Int.natCast_ediv, Int.natCast_pow]; rfl
      have hle : m' / 2 ^ (t - 60) ≤ m' := Nat.div_le_self _ _
      have hAt : A / 2 ^ t = m' / 2 ^ (t - 60) := by
        have e : t = 60 + (t - 60) := by omega
        have e5 : (2 : Nat) ^ t = 2 ^ 60 * 2 ^ (t - 60) := by rw [← Nat.pow_add, ← e]
        rw [e5, ← Nat.div_div_eq_div_mul, hA, Nat.mul_div_cancel_left _ (by decide)]
      rw [hs, and1 _ (by omega) (by omega), hAt]
      rw [Bool.eq_iff_iff, beq_iff_eq, decide_eq_true_iff]; omega
    · rw [if_neg c]
      refine hj1 _ ?_
      have e : (60 : Nat) = t + 1 + (59 - t) := by omega
      have hA2 : A / 2 ^ t % 2 = 0 := by
        have e5 : (2 : Nat) ^ 60 = 2 ^ t * (2 * 2 ^ (59 - t)) := by
          rw [← Nat.mul_assoc, ← Nat.pow_succ, ← Nat.pow_add, ← e]
        rw [hA, e5, Nat.mul_assoc, Nat.mul_div_cancel_left _ (Nat.two_pow_pos _), Nat.mul_assoc, Nat.mul_mod_right]
      rw [hA2]; rfl


theorem quotient_32 (k : Nat) (hk : 900 ≤ k) (x y : Int) (hx0 : 0 ≤ x) (hx1 : x < 18446744073709551616) (hy0 : 0 ≤ y) (hy1 : y < 18446744073709551616)
    (hx : rung FloatKind.f32.format x.toNat < FloatKind.f32.format.infRung) (hy : rung FloatKind.f32.format y.toNat < FloatKind.f32.format.infRung) (hxn : rung FloatKind.f32.format x.toNat ≠ 0) (hyn : rung FloatKind.f32.format y.toNat ≠ 0) :
    ∃ v : Nat, FloatKind.f32.format.div x.toNat y.toNat = some v ∧ ratchetref04_Format_quotient.f (k + 8) 23 8 x y = some (v : Int) := by
  have hE := exf_le_32 _ hx
  have hG := exf_le_32 _ hy
  have hM := sgf_lt FloatKind.f32.format (rung FloatKind.f32.format x.toNat)
  have hN := sgf_lt FloatKind.f32.format (rung FloatKind.f32.format y.toNat)
  rw [show FloatKind.f32.format.binade = 8388608 by decide] at hM hN
  have hM0 : 0 < sgf FloatKind.f32.format (rung FloatKind.f32.format x.toNat) := by have := sgf_zero FloatKind.f32.format (rung FloatKind.f32.format x.toNat); omega
  have hN0 : 0 < sgf FloatKind.f32.format (rung FloatKind.f32.format y.toNat) := by have := sgf_zero FloatKind.f32.format (rung FloatKind.f32.format y.toNat); omega
  have hl := quot_l0_32 x y hx0 hx1 hy0 hy1
  unfold Ieee.Format.div
  rw [read_eq, read_eq, unword_parts FloatKind.f32.format _ _ hx, unword_parts FloatKind.f32.format _ _ hy]
  unfold ratchetref04_Format_quotient.f
  rw [parts32 x hx0 hx1, parts32 y hy0 hy1, show FloatKind.f32.format.leastPlace = -149 by decide, show FloatKind.f32.format.fractionBits = 23 from rfl]
  simp only [Option.bind_some]
  generalize sgf FloatKind.f32.format (rung FloatKind.f32.format x.toNat) = M at hM hM0 ⊢
  generalize sgf FloatKind.f32.format (rung FloatKind.f32.format y.toNat) = N at hN hN0 ⊢
  generalize exf FloatKind.f32.format (rung FloatKind.f32.format x.toNat) = E at hE ⊢
  generalize exf FloatKind.f32.format (rung FloatKind.f32.format y.toNat) = G at hG ⊢
  generalize sgn FloatKind.f32.format x.toNat = s at hl ⊢
  generalize sgn FloatKind.f32.format y.toNat = u at hl ⊢
  refine ⟨_, by simp only [Ieee.Datum.quotient]; rw [if_neg (by omega)]; rfl, ?_⟩
  rw [bits_f (k + 8) M (by omega) (by omega)]
  simp only [Option.bind_some]
  have hlM := len_eq M hM0
  have hlogM : M.log2 ≤ 23 := by
    have := (Nat.log2_lt (n := M) (k := 24) (by omega)).2 (by omega)
    omega
  have hlogN : N.log2 ≤ 23 := by
    have := (Nat.log2_lt (n := N) (k := 24) (by omega)).2 (by omega)
    omega
  rw [show wrap64 (64 - (len M : Int)) = ((63 - M.log2 : Nat) : Int) by unfold wrap64; omega, show IntKind.u64.wrap (((63 - M.log2 : Nat) : Int)) = ((63 - M.log2 : Nat) : Int) by rw [IntKind.wrap_u64]; omega, if_pos (by omega)]
  -- the greater one, moved up
  have hsh : shl .u64 (M : Int) ((63 - M.log2 : Nat) : Int) = ((2 ^ (63 - M.log2) * M : Nat) : Int) ∧ 2 ^ (63 - M.log2) * M < 18446744073709551616 := by
    have h1 : 2 ^ (63 - M.log2) * M < 2 ^ (63 - M.log2) * 2 ^ (M.log2 + 1) := Nat.mul_lt_mul_of_pos_left (log2_lt' M) (Nat.two_pow_pos _)
    rw [← Nat.pow_add, show 63 - M.log2 + (M.log2 + 1) = 64 by omega] at h1
    refine ⟨?_, by simpa using h1⟩
    unfold shl
    rw [show min (((63 - M.log2 : Nat) : Int)).toNat IntKind.u64.bits = 63 - M.log2 by show min (((63 - M.log2 : Nat) : Int)).toNat 64 = 63 - M.log2; omega, IntKind.wrap_u64]
    have h2 : (M : Int) * 2 ^ (63 - M.log2) = ((2 ^ (63 - M.log2) * M : Nat) : Int) := by
      rw [Int.natCast_mul, Int.natCast_pow, Int.mul_comm]; rfl
    rw [h2]
    simp only [Nat.reducePow] at h1
    omega
  rw [hsh.1, show wrap64 (-149 + (E : Int) - ((63 - M.log2 : Nat) : Int)) = -149 + (E : Int) - ((63 - M.log2 : Nat) : Int) by unfold wrap64; omega]
  have hm'lt := hsh.2
  -- so many digits as the model has, and more
  obtain ⟨b, hb⟩ : ∃ b, 25 + N.log2 - M.log2 = b := ⟨_, rfl⟩
  obtain ⟨c, hc⟩ : ∃ c, 123 - M.log2 = b + c := ⟨123 - M.log2 - b, by omega⟩
  have hA : 2 ^ 60 * (2 ^ (63 - M.log2) * M) = 2 ^ c * (2 ^ b * M) := by
    rw [← Nat.mul_assoc, ← Nat.mul_assoc, ← Nat.pow_add, ← Nat.pow_add, show 60 + (63 - M.log2) = c + b by omega]
  have hB : 2 ^ (FloatKind.f32.format.fractionBits + 1) ≤ 2 ^ b * M / N := by
    rw [show FloatKind.f32.format.fractionBits = 23 from rfl, Nat.le_div_iff_mul_le hN0]
    have h1 : 2 ^ b * 2 ^ M.log2 ≤ 2 ^ b * M := Nat.mul_le_mul_left _ (Nat.log2_self_le (by omega))
    rw [← Nat.pow_add, show b + M.log2 = 24 + (N.log2 + 1) by omega, Nat.pow_add] at h1
    have h2 : 2 ^ (23 + 1) * N ≤ 2 ^ 24 * 2 ^ (N.log2 + 1) := Nat.mul_le_mul_left _ (Nat.le_of_lt (log2_lt' N))
    exact Nat.le_trans h2 h1
  have hq := near_quot FloatKind.f32.format (s ^^ u) (2 ^ b * M) N c (-149 + (E : Int) - (-149 + (G : Int)) - ((b + c : Nat) : Int) - 1) hN0 hB
  have hBlog := log2_ge hB
  rw [show FloatKind.f32.format.fractionBits = 23 from rfl] at hBlog
  have hApos : 2 ^ 24 ≤ 2 ^ 60 * (2 ^ (63 - M.log2) * M) / N := by
    rw [hA]
    refine Nat.le_trans hB (Nat.div_le_div_right ?_)
    exact Nat.le_mul_of_pos_left _ (Nat.two_pow_pos _)
  have hAlog := log2_ge hApos
  have h124 := hl (2 ^ 60 * (2 ^ (63 - M.log2) * M)) (2 ^ (63 - M.log2) * M) N (-149 + (E : Int) - ((63 - M.log2 : Nat) : Int)) (-149 + (G : Int)) hN0 (by omega) hm'lt rfl (Nat.lt_of_lt_of_le (Nat.two_pow_pos _) hApos) (by omega) (by omega) (by omega) (by omega) (fun _ => ⟨by omega, by omega, by omega⟩) ⟨by omega, by omega⟩ 124 k (by decide) (by omega)
  have hz : 2 ^ 60 * (2 ^ (63 - M.log2) * M) / 2 ^ 124 = 0 := by
    apply Nat.div_eq_of_lt
    have : 2 ^ 60 * (2 ^ (63 - M.log2) * M) < 2 ^ 60 * 18446744073709551616 := Nat.mul_lt_mul_of_pos_left hm'lt (by decide)
    exact Nat.lt_of_lt_of_le this (by decide)
  rw [hz, Nat.zero_div, Nat.zero_mod, show hiW 0 = 0 by decide, show loW 0 = 0 by decide] at h124
  rw [show (123 : Int) = ((124 : Nat) : Int) - 1 from rfl, h124, hA]
  have hpl : -149 + (E : Int) - ((63 - M.log2 : Nat) : Int) - (-149 + (G : Int)) - 60 - 1 = -149 + (E : Int) - (-149 + (G : Int)) - ((b + c : Nat) : Int) - 1 := by omega
  rw [hpl, hq]
  show some ((FloatKind.f32.format.nearest _ _ _ : Nat) : Int) = some ((FloatKind.f32.format.nearest _ _ _ : Nat) : Int)
  rw [show -149 + (E : Int) - (-149 + (G : Int)) - ((b + c : Nat) : Int) - 1 + c = -149 + (E : Int) - (-149 + (G : Int)) - ((23 + 2 + N.log2 - M.log2 : Nat) : Int) - 1 by omega, Nat.shiftLeft_eq, hb, Nat.mul_comm M]
  have hbn : (2 ^ b * M % N != 0) = decide (2 ^ b * M % N ≠ 0) := by
    rw [Bool.eq_iff_iff]; simp
  rw [hbn]

theorem quotient_64 (k : Nat) (hk : 900 ≤ k) (x y : Int) (hx0 : 0 ≤ x) (hx1 : x < 18446744073709551616) (hy0 : 0 ≤ y) (hy1 : y < 18446744073709551616)
    (hx : rung FloatKind.f64.format x.toNat < FloatKind.f64.format.infRung) (hy : rung FloatKind.f64.format y.toNat < FloatKind.f64.format.infRung) (hxn : rung FloatKind.f64.format x.toNat ≠ 0) (hyn : rung FloatKind.f64.format y.toNat ≠ 0) :
    ∃ v : Nat, FloatKind.f64.format.div x.toNat y.toNat = some v ∧ ratchetref04_Format_quotient.f (k + 8) 52 11 x y = some (v : Int) := by
  have hE := exf_le_64 _ hx
  have hG := exf_le_64 _ hy
  have hM := sgf_lt FloatKind.f64.format (rung FloatKind.f64.format x.toNat)
  have hN := sgf_lt FloatKind.f64.format (rung FloatKind.f64.format y.toNat)
  rw [show FloatKind.f64.format.binade = 4503599627370496 by decide] at hM hN
  have hM0 : 0 < sgf FloatKind.f64.format (rung FloatKind.f64.format x.toNat) := by have := sgf_zero FloatKind.f64.format (rung FloatKind.f64.format x.toNat); omega
  have hN0 : 0 < sgf FloatKind.f64.format (rung FloatKind.f64.format y.toNat) := by have := sgf_zero FloatKind.f64.format (rung FloatKind.f64.format y.toNat); omega
  have hl := quot_l0_64 x y hx0 hx1 hy0 hy1
  unfold Ieee.Format.div
  rw [read_eq, read_eq, unword_parts FloatKind.f64.format _ _ hx, unword_parts FloatKind.f64.format _ _ hy]
  unfold ratchetref04_Format_quotient.f
  rw [parts64 x hx0 hx1, parts64 y hy0 hy1, show FloatKind.f64.format.leastPlace = -1074 by decide, show FloatKind.f64.format.fractionBits = 52 from rfl]
  simp only [Option.bind_some]
  generalize sgf FloatKind.f64.format (rung FloatKind.f64.format x.toNat) = M at hM hM0 ⊢
  generalize sgf FloatKind.f64.format (rung FloatKind.f64.format y.toNat) = N at hN hN0 ⊢
  generalize exf FloatKind.f64.format (rung FloatKind.f64.format x.toNat) = E at hE ⊢
  generalize exf FloatKind.f64.format (rung FloatKind.f64.format y.toNat) = G at hG ⊢
  generalize sgn FloatKind.f64.format x.toNat = s at hl ⊢
  generalize sgn FloatKind.f64.format y.toNat = u at hl ⊢
  refine ⟨_, by simp only [Ieee.Datum.quotient]; rw [if_neg (by omega)]; rfl, ?_⟩
  rw [bits_f (k + 8) M (by omega) (by omega)]
  simp only [Option.bind_some]
  have hlM := len_eq M hM0
  have hlogM : M.log2 ≤ 52 := by
    have := (Nat.log2_lt (n := M) (k := 53) (by omega)).2 (by omega)
    omega
  have hlogN : N.log2 ≤ 52 := by
    have := (Nat.log2_lt (n := N) (k := 53) (by omega)).2 (by omega)
    omega
  rw [show wrap64 (64 - (len M : Int)) = ((63 - M.log2 : Nat) : Int) by unfold wrap64; omega, show IntKind.u64.wrap (((63 - M.log2 : Nat) : Int)) = ((63 - M.log2 : Nat) : Int) by rw [IntKind.wrap_u64]; omega, if_pos (by omega)]
  -- the greater one, moved up
  have hsh : shl .u64 (M : Int) ((63 - M.log2 : Nat) : Int) = ((2 ^ (63 - M.log2) * M : Nat) : Int) ∧ 2 ^ (63 - M.log2) * M < 18446744073709551616 := by
    have h1 : 2 ^ (63 - M.log2) * M < 2 ^ (63 - M.log2) * 2 ^ (M.log2 + 1) := Nat.mul_lt_mul_of_pos_left (log2_lt' M) (Nat.two_pow_pos _)
    rw [← Nat.pow_add, show 63 - M.log2 + (M.log2 + 1) = 64 by omega] at h1
    refine ⟨?_, by simpa using h1⟩
    unfold shl
    rw [show min (((63 - M.log2 : Nat) : Int)).toNat IntKind.u64.bits = 63 - M.log2 by show min (((63 - M.log2 : Nat) : Int)).toNat 64 = 63 - M.log2; omega, IntKind.wrap_u64]
    have h2 : (M : Int) * 2 ^ (63 - M.log2) = ((2 ^ (63 - M.log2) * M : Nat) : Int) := by
      rw [Int.natCast_mul, Int.natCast_pow, Int.mul_comm]; rfl
    rw [h2]
    simp only [Nat.reducePow] at h1
    omega
  rw [hsh.1, show wrap64 (-1074 + (E : Int) - ((63 - M.log2 : Nat) : Int)) = -1074 + (E : Int) - ((63 - M.log2 : Nat) : Int) by unfold wrap64; omega]
  have hm'lt := hsh.2
  -- so many digits as the model has, and more
  obtain ⟨b, hb⟩ : ∃ b, 54 + N.log2 - M.log2 = b := ⟨_, rfl⟩
  obtain ⟨c, hc⟩ : ∃ c, 123 - M.log2 = b + c := ⟨123 - M.log2 - b, by omega⟩
  have hA : 2 ^ 60 * (2 ^ (63 - M.log2) * M) = 2 ^ c * (2 ^ b * M) := by
    rw [← Nat.mul_assoc, ← Nat.mul_assoc, ← Nat.pow_add, ← Nat.pow_add, show 60 + (63 - M.log2) = c + b by omega]
  have hB : 2 ^ (FloatKind.f64.format.fractionBits + 1) ≤ 2 ^ b * M / N := by
    rw [show FloatKind.f64.format.fractionBits = 52 from rfl, Nat.le_div_iff_mul_le hN0]
    have h1 : 2 ^ b * 2 ^ M.log2 ≤ 2 ^ b * M := Nat.mul_le_mul_left _ (Nat.log2_self_le (by omega))
    rw [← Nat.pow_add, show b + M.log2 = 53 + (N.log2 + 1) by omega, Nat.pow_add] at h1
    have h2 : 2 ^ (52 + 1) * N ≤ 2 ^ 53 * 2 ^ (N.log2 + 1) := Nat.mul_le_mul_left _ (Nat.le_of_lt (log2_lt' N))
    exact Nat.le_trans h2 h1
  have hq := near_quot FloatKind.f64.format (s ^^ u) (2 ^ b * M) N c (-1074 + (E : Int) - (-1074 + (G : Int)) - ((b + c : Nat) : Int) - 1) hN0 hB
  have hBlog := log2_ge hB
  rw [show FloatKind.f64.format.fractionBits = 52 from rfl] at hBlog
  have hApos : 2 ^ 53 ≤ 2 ^ 60 * (2 ^ (63 - M.log2) * M) / N := by
    rw [hA]
    refine Nat.le_trans hB (Nat.div_le_div_right ?_)
    exact Nat.le_mul_of_pos_left _ (Nat.two_pow_pos _)
  have hAlog := log2_ge hApos
  have h124 := hl (2 ^ 60 * (2 ^ (63 - M.log2) * M)) (2 ^ (63 - M.log2) * M) N (-1074 + (E : Int) - ((63 - M.log2 : Nat) : Int)) (-1074 + (G : Int)) hN0 (by omega) hm'lt rfl (Nat.lt_of_lt_of_le (Nat.two_pow_pos _) hApos) (by omega) (by omega) (by omega) (by omega) (fun _ => ⟨by omega, by omega, by omega⟩) ⟨by omega, by omega⟩ 124 k (by decide) (by omega)
  have hz : 2 ^ 60 * (2 ^ (63 - M.log2) * M) / 2 ^ 124 = 0 := by
    apply Nat.div_eq_of_lt
    have : 2 ^ 60 * (2 ^ (63 - M.log2) * M) < 2 ^ 60 * 18446744073709551616 := Nat.mul_lt_mul_of_pos_left hm'lt (by decide)
    exact Nat.lt_of_lt_of_le this (by decide)
  rw [hz, Nat.zero_div, Nat.zero_mod, show hiW 0 = 0 by decide, show loW 0 = 0 by decide] at h124
  rw [show (123 : Int) = ((124 : Nat) : Int) - 1 from rfl, h124, hA]
  have hpl : -1074 + (E : Int) - ((63 - M.log2 : Nat) : Int) - (-1074 + (G : Int)) - 60 - 1 = -1074 + (E : Int) - (-1074 + (G : Int)) - ((b + c : Nat) : Int) - 1 := by omega
  rw [hpl, hq]
  show some ((FloatKind.f64.format.nearest _ _ _ : Nat) : Int) = some ((FloatKind.f64.format.nearest _ _ _ : Nat) : Int)
  rw [show -1074 + (E : Int) - (-1074 + (G : Int)) - ((b + c : Nat) : Int) - 1 + c = -1074 + (E : Int) - (-1074 + (G : Int)) - ((52 + 2 + N.log2 - M.log2 : Nat) : Int) - 1 by omega, Nat.shiftLeft_eq, hb, Nat.mul_comm M]
  have hbn : (2 ^ b * M % N != 0) = decide (2 ^ b * M % N ≠ 0) := by
    rw [Bool.eq_iff_iff]; simp
  rw [hbn]
end Go.Proofs.Ytapfapngcncaeaa.QF
