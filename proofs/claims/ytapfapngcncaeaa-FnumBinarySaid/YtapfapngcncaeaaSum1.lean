/- The reference's sum of two finite floats is the model's. -/
import Derived.Test.YtapfapngcncaeaaQFx6
import Derived.Test.YtapfapngcncaeaaParts
import Derived.Test.YtapfapngcncaeaaSum0
import Derived.Test.YtapfapngcncaeaaFl5
namespace Go.Proofs.Ytapfapngcncaeaa.Ie
open Ieee

theorem pow_frac (f : Format) : f.binade = 2 ^ f.fractionBits := rfl

theorem add_big (f : Format) (X Y : Nat) (hx : rung f X < f.infRung) (hy : rung f Y < f.infRung) (hle : rung f Y ≤ rung f X) (hne : rung f X ≠ 0) :
    f.add X Y = some (
      if sgn f X = sgn f Y then f.nearest (sgn f X) (sgf f (rung f X) * 2 ^ (exf f (rung f X) - exf f (rung f Y)) + sgf f (rung f Y)) (f.leastPlace + exf f (rung f Y))
      else if sgf f (rung f Y) = sgf f (rung f X) * 2 ^ (exf f (rung f X) - exf f (rung f Y)) then f.word false 0
      else f.nearest (sgn f X) (sgf f (rung f X) * 2 ^ (exf f (rung f X) - exf f (rung f Y)) - sgf f (rung f Y)) (f.leastPlace + exf f (rung f Y))) := by
  have hm := exf_mono f hle
  unfold Format.add
  rw [read_eq, read_eq, unword_parts f _ _ hx, unword_parts f _ _ hy]
  have hM : 0 < sgf f (rung f X) := by
    have := sgf_zero f (rung f X)
    omega
  have hcmp : sgf f (rung f Y) ≤ sgf f (rung f X) * 2 ^ (exf f (rung f X) - exf f (rung f Y)) := by
    have h1 := mag_le f hle
    rw [mag_parts, mag_parts] at h1
    have h2 : 2 ^ exf f (rung f X) = 2 ^ (exf f (rung f X) - exf f (rung f Y)) * 2 ^ exf f (rung f Y) := by rw [← Nat.pow_add, Nat.sub_add_cancel hm]
    rw [h2, ← Nat.mul_assoc] at h1
    exact Nat.le_of_mul_le_mul_right h1 (Nat.two_pow_pos _)
  generalize sgf f (rung f X) = M at hM hcmp ⊢
  generalize sgf f (rung f Y) = N at hcmp ⊢
  generalize exf f (rung f X) = E at hm hcmp ⊢
  generalize exf f (rung f Y) = G at hm hcmp ⊢
  generalize sgn f X = s
  generalize sgn f Y = t
  simp only [Datum.sum, Option.map_some, Option.some.injEq]
  rw [Int.min_eq_right (by omega), show (f.leastPlace + (E : Int) - (f.leastPlace + G)).toNat = E - G by omega, show (f.leastPlace + (G : Int) - (f.leastPlace + G)).toNat = 0 by omega]
  have hp : 0 < M * 2 ^ (E - G) := Nat.mul_pos hM (Nat.two_pow_pos _)
  unfold signed
  rw [Nat.shiftLeft_eq, Nat.shiftLeft_eq, Nat.pow_zero, Nat.mul_one]
  generalize M * 2 ^ (E - G) = T at hp hcmp ⊢
  unfold Format.write
  cases s <;> cases t <;> simp only [Bool.false_eq_true, if_false, if_true, reduceCtorEq]
  · rw [if_neg (by omega), show ((T : Int) + N).natAbs = T + N by omega, show decide ((T : Int) + N < 0) = false by simp; omega]
  · by_cases h : N = T
    · rw [if_pos h, if_pos (by omega), show ((T : Int) + -(N : Int)).natAbs = 0 by omega]; simp [Format.nearest]
    · rw [if_neg h, if_neg (by omega), show ((T : Int) + -(N : Int)).natAbs = T - N by omega, show decide ((T : Int) + -(N : Int) < 0) = false by simp; omega]
  · by_cases h : N = T
    · rw [if_pos h, if_pos (by omega), show (-(T : Int) + (N : Int)).natAbs = 0 by omega]; simp [Format.nearest]
    · rw [if_neg h, if_neg (by omega), show (-(T : Int) + (N : Int)).natAbs = T - N by omega, show decide (-(T : Int) + (N : Int) < 0) = true by simp; omega]
  · rw [if_neg (by omega), show (-(T : Int) + -(N : Int)).natAbs = T + N by omega, show decide (-(T : Int) + -(N : Int) < 0) = true by simp; omega]
end Go.Proofs.Ytapfapngcncaeaa.Ie
namespace Go.Proofs.Ytapfapngcncaeaa.QF
open Go.RowKit Go.Proofs.YtapfapngcncaeaaW.PrintWords Go.Proofs.YtapfapngcncaeaaW.PrintLast Go.Proofs.YtapfapngcncaeaaW.PrintMore Go.Proofs.Ytapfapngcncaeaa.Ie Go.Proofs.Ytapfapngcncaeaa.Rf


theorem sum_j0_32 (k : Nat) (hk : 500 ≤ k) (x y : Int) (hx0 : 0 ≤ x) (hx1 : x < 18446744073709551616) (hy0 : 0 ≤ y) (hy1 : y < 18446744073709551616)
    (hx : rung FloatKind.f32.format x.toNat < FloatKind.f32.format.infRung) (hy : rung FloatKind.f32.format y.toNat < FloatKind.f32.format.infRung) (hle : rung FloatKind.f32.format y.toNat ≤ rung FloatKind.f32.format x.toNat) (hne : rung FloatKind.f32.format x.toNat ≠ 0) :
    ∃ v : Nat, FloatKind.f32.format.add x.toNat y.toNat = some v ∧ ratchetref04_Format_sum.j0 (k + 8) x y 23 8 = some (v : Int) := by
  refine ⟨_, add_big FloatKind.f32.format _ _ hx hy hle hne, ?_⟩
  have hm := exf_mono FloatKind.f32.format hle
  have hEx : exf FloatKind.f32.format (rung FloatKind.f32.format x.toNat) ≤ 3000 := by
    unfold exf
    rw [show FloatKind.f32.format.binade = 8388608 by decide]
    rw [show FloatKind.f32.format.infRung = 2139095040 by decide] at hx
    split <;> omega
  have hM1 := sgf_lt FloatKind.f32.format (rung FloatKind.f32.format x.toNat)
  have hN1 := sgf_lt FloatKind.f32.format (rung FloatKind.f32.format y.toNat)
  have hM2 := sgf_ge FloatKind.f32.format (rung FloatKind.f32.format x.toNat)
  have hM3 : 0 < sgf FloatKind.f32.format (rung FloatKind.f32.format x.toNat) := by
    have := sgf_zero FloatKind.f32.format (rung FloatKind.f32.format x.toNat)
    omega
  have hcmp : sgf FloatKind.f32.format (rung FloatKind.f32.format y.toNat) ≤ sgf FloatKind.f32.format (rung FloatKind.f32.format x.toNat) * 2 ^ (exf FloatKind.f32.format (rung FloatKind.f32.format x.toNat) - exf FloatKind.f32.format (rung FloatKind.f32.format y.toNat)) := by
    have h1 := mag_le FloatKind.f32.format hle
    rw [mag_parts, mag_parts] at h1
    have h2 : 2 ^ exf FloatKind.f32.format (rung FloatKind.f32.format x.toNat) = 2 ^ (exf FloatKind.f32.format (rung FloatKind.f32.format x.toNat) - exf FloatKind.f32.format (rung FloatKind.f32.format y.toNat)) * 2 ^ exf FloatKind.f32.format (rung FloatKind.f32.format y.toNat) := by rw [← Nat.pow_add, Nat.sub_add_cancel hm]
    rw [h2, ← Nat.mul_assoc] at h1
    exact Nat.le_of_mul_le_mul_right h1 (Nat.two_pow_pos _)
  rw [show FloatKind.f32.format.binade = 8388608 by decide] at hM1 hN1 hM2
  rw [show FloatKind.f32.format.leastPlace = -149 by decide, ratchetref04_Format_sum.j0, parts32 x hx0 hx1, parts32 y hy0 hy1, below32 x hx0 hx1, below32 y hy0 hy1]
  simp only [Option.bind_some]
  generalize sgf FloatKind.f32.format (rung FloatKind.f32.format x.toNat) = M at hM1 hM2 hM3 hcmp ⊢
  generalize sgf FloatKind.f32.format (rung FloatKind.f32.format y.toNat) = N at hN1 hcmp ⊢
  generalize exf FloatKind.f32.format (rung FloatKind.f32.format x.toNat) = E at hm hEx hM2 hcmp ⊢
  generalize exf FloatKind.f32.format (rung FloatKind.f32.format y.toNat) = G at hm hcmp ⊢
  have l1 := left_f (k + 7) 60 M false (by omega) (by omega) (by omega) (by omega)
  have l2 := left_f (k + 7) 60 N false (by omega) (by omega) (by omega) (by omega)
  rw [hiW_zero (by omega), loW_small (by omega), show Int.toNat 60 = 60 from rfl, Nat.mod_eq_of_lt (by omega)] at l1 l2
  rw [Nat.mul_comm M (2 ^ 60)] at l1
  rw [Nat.mul_comm N (2 ^ 60)] at l2
  rw [l1, l2]
  simp only [Option.bind_some]
  rw [show wrap64 (-149 + (E : Int) - (-149 + (G : Int))) = ((E - G : Nat) : Int) by unfold wrap64; omega, right_f _ _ _ _ (by omega) (by omega) (by omega), show wrap64 (-149 + (E : Int) - 60) = -149 + (E : Int) - 60 by unfold wrap64; omega]
  simp only [Option.bind_some, Bool.false_or, Int.toNat_natCast]
  have hNF : N < 2 ^ (FloatKind.f32.format.fractionBits + 1) := hN1
  have hVle : 2 ^ 60 * N / 2 ^ (E - G) ≤ 2 ^ 60 * N := Nat.div_le_self _ _
  by_cases hs : sgn FloatKind.f32.format x.toNat = sgn FloatKind.f32.format y.toNat
  · rw [if_pos (by rw [hs]; simp), if_pos hs]
    obtain ⟨a1, a2, a3⟩ := near_sum' FloatKind.f32.format (sgn FloatKind.f32.format x.toNat) M N (E - G) (-149 + (G : Int)) hM3 (fun h => hM2 (by omega)) hNF
    rw [plus_f _ _ _ _ (by omega)]
    simp only [Option.bind_some, Bool.false_or]
    rw [round_pos32 (k + 1) (by omega) _ _ a1 (by omega) _ (-149 + (E : Int) - 60) (by omega) (by omega) (fun h => by have := a2 h; rw [show FloatKind.f32.format.fractionBits = 23 from rfl] at this; omega)]
    rw [a3, show (-149 + (G : Int) + ((E - G : Nat) : Int) - 60 - 1) = -149 + (E : Int) - 60 - 1 by omega]
    rfl
  · rw [if_neg (by simpa using hs), if_neg hs]
    obtain ⟨a1, a2, a3⟩ := near_diff' FloatKind.f32.format (sgn FloatKind.f32.format x.toNat) M N (E - G) (-149 + (G : Int)) (fun h => hM2 (by omega)) hNF hcmp
    rw [show k + 7 = (k + 6) + 1 from rfl, minus_f (k + 6) _ _ _ _ (by omega) a1]
    simp only [Option.bind_some, Bool.false_or]
    by_cases hz : N = M * 2 ^ (E - G)
    · obtain ⟨b1, b2⟩ := a2 hz
      rw [if_pos hz, b1, b2]
      have e0 : 2 ^ 60 * M - 2 ^ 60 * M - (decide ((0 : Nat) ≠ 0)).toNat = 0 := by simp
      rw [e0, show hiW 0 = 0 by decide, show loW 0 = 0 by decide, if_pos rfl, if_pos rfl]
      rw [ratchetref04_Format_sum.j1]
      rfl
    · obtain ⟨b1, b2, b3⟩ := a3 (by omega)
      rw [if_neg hz, b3]
      obtain ⟨W, hW⟩ : ∃ W, 2 ^ 60 * M - 2 ^ 60 * N / 2 ^ (E - G) - (decide (2 ^ 60 * N % 2 ^ (E - G) ≠ 0)).toNat = W := ⟨_, rfl⟩
      rw [hW] at b1 b2 ⊢
      have hW2 : W < 340282366920938463463374607431768211456 := Nat.lt_of_le_of_lt (show W ≤ 2 ^ 60 * M by rw [← hW]; exact Nat.le_trans (Nat.sub_le _ _) (Nat.sub_le _ _)) (by omega)
      have hj : ratchetref04_Format_sum.j1 (k + 6 + 1) x (-149 + (E : Int)) false 23 8 (hiW W) (loW W) (decide (2 ^ 60 * N % 2 ^ (E - G) ≠ 0)) = some ((FloatKind.f32.format.nearest (sgn FloatKind.f32.format x.toNat) (2 * W + (decide (2 ^ 60 * N % 2 ^ (E - G) ≠ 0)).toNat) (-149 + (G : Int) + ((E - G : Nat) : Int) - 60 - 1) : Nat) : Int) := by
        rw [ratchetref04_Format_sum.j1]
        simp only [Bool.false_eq_true, if_false]
        rw [below32 x hx0 hx1]
        simp only [Option.bind_some]
        rw [show wrap64 (-149 + (E : Int) - 60) = -149 + (E : Int) - 60 by unfold wrap64; omega, round_pos32 k (by omega) _ _ b1 hW2 _ (-149 + (E : Int) - 60) (by omega) (by omega) (fun h => by have := b2 h; rw [show FloatKind.f32.format.fractionBits = 23 from rfl] at this; omega)]
        rw [show (-149 + (G : Int) + ((E - G : Nat) : Int) - 60 - 1) = -149 + (E : Int) - 60 - 1 by omega]
        rfl
      by_cases c : hiW W = 0
      · rw [if_pos c]
        have c2 : ¬ loW W = 0 := by unfold hiW at c; unfold loW; omega
        rw [if_neg c2]
        exact hj
      · rw [if_neg c]
        exact hj


theorem sum_j0_64 (k : Nat) (hk : 500 ≤ k) (x y : Int) (hx0 : 0 ≤ x) (hx1 : x < 18446744073709551616) (hy0 : 0 ≤ y) (hy1 : y < 18446744073709551616)
    (hx : rung FloatKind.f64.format x.toNat < FloatKind.f64.format.infRung) (hy : rung FloatKind.f64.format y.toNat < FloatKind.f64.format.infRung) (hle : rung FloatKind.f64.format y.toNat ≤ rung FloatKind.f64.format x.toNat) (hne : rung FloatKind.f64.format x.toNat ≠ 0) :
    ∃ v : Nat, FloatKind.f64.format.add x.toNat y.toNat = some v ∧ ratchetref04_Format_sum.j0 (k + 8) x y 52 11 = some (v : Int) := by
  refine ⟨_, add_big FloatKind.f64.format _ _ hx hy hle hne, ?_⟩
  have hm := exf_mono FloatKind.f64.format hle
  have hEx : exf FloatKind.f64.format (rung FloatKind.f64.format x.toNat) ≤ 3000 := by
    unfold exf
    rw [show FloatKind.f64.format.binade = 4503599627370496 by decide]
    rw [show FloatKind.f64.format.infRung = 9218868437227405312 by decide] at hx
    split <;> omega
  have hM1 := sgf_lt FloatKind.f64.format (rung FloatKind.f64.format x.toNat)
  have hN1 := sgf_lt FloatKind.f64.format (rung FloatKind.f64.format y.toNat)
  have hM2 := sgf_ge FloatKind.f64.format (rung FloatKind.f64.format x.toNat)
  have hM3 : 0 < sgf FloatKind.f64.format (rung FloatKind.f64.format x.toNat) := by
    have := sgf_zero FloatKind.f64.format (rung FloatKind.f64.format x.toNat)
    omega
  have hcmp : sgf FloatKind.f64.format (rung FloatKind.f64.format y.toNat) ≤ sgf FloatKind.f64.format (rung FloatKind.f64.format x.toNat) * 2 ^ (exf FloatKind.f64.format (rung FloatKind.f64.format x.toNat) - exf FloatKind.f64.format (rung FloatKind.f64.format y.toNat)) := by
    have h1 := mag_le FloatKind.f64.format hle
    rw [mag_parts, mag_parts] at h1
    have h2 : 2 ^ exf FloatKind.f64.format (rung FloatKind.f64.format x.toNat) = 2 ^ (exf FloatKind.f64.format (rung FloatKind.f64.format x.toNat) - exf FloatKind.f64.format (rung FloatKind.f64.format y.toNat)) * 2 ^ exf FloatKind.f64.format (rung FloatKind.f64.format y.toNat) := by rw [← Nat.pow_add, Nat.sub_add_cancel hm]
    rw [h2, ← Nat.mul_assoc] at h1
    exact Nat.le_of_mul_le_mul_right h1 (Nat.two_pow_pos _)
  rw [show FloatKind.f64.format.binade = 4503599627370496 by decide] at hM1 hN1 hM2
  rw [show FloatKind.f64.format.leastPlace = -1074 by decide, ratchetref04_Format_sum.j0, parts64 x hx0 hx1, parts64 y hy0 hy1, below64 x hx0 hx1, below64 y hy0 hy1]
  simp only [Option.bind_some]
  generalize sgf FloatKind.f64.format (rung FloatKind.f64.format x.toNat) = M at hM1 hM2 hM3 hcmp ⊢
  generalize sgf FloatKind.f64.format (rung FloatKind.f64.format y.toNat) = N at hN1 hcmp ⊢
  generalize exf FloatKind.f64.format (rung FloatKind.f64.format x.toNat) = E at hm hEx hM2 hcmp ⊢
  generalize exf FloatKind.f64.format (rung FloatKind.f64.format y.toNat) = G at hm hcmp ⊢
  have l1 := left_f (k + 7) 60 M false (by omega) (by omega) (by omega) (by omega)
  have l2 := left_f (k + 7) 60 N false (by omega) (by omega) (by omega) (by omega)
  rw [hiW_zero (by omega), loW_small (by omega), show Int.toNat 60 = 60 from rfl, Nat.mod_eq_of_lt (by omega)] at l1 l2
  rw [Nat.mul_comm M (2 ^ 60)] at l1
  rw [Nat.mul_comm N (2 ^ 60)] at l2
  rw [l1, l2]
  simp only [Option.bind_some]
  rw [show wrap64 (-1074 + (E : Int) - (-1074 + (G : Int))) = ((E - G : Nat) : Int) by unfold wrap64; omega, right_f _ _ _ _ (by omega) (by omega) (by omega), show wrap64 (-1074 + (E : Int) - 60) = -1074 + (E : Int) - 60 by unfold wrap64; omega]
  simp only [Option.bind_some, Bool.false_or, Int.toNat_natCast]
  have hNF : N < 2 ^ (FloatKind.f64.format.fractionBits + 1) := hN1
  have hVle : 2 ^ 60 * N / 2 ^ (E - G) ≤ 2 ^ 60 * N := Nat.div_le_self _ _
  by_cases hs : sgn FloatKind.f64.format x.toNat = sgn FloatKind.f64.format y.toNat
  · rw [if_pos (by rw [hs]; simp), if_pos hs]
    obtain ⟨a1, a2, a3⟩ := near_sum' FloatKind.f64.format (sgn FloatKind.f64.format x.toNat) M N (E - G) (-1074 + (G : Int)) hM3 (fun h => hM2 (by omega)) hNF
    rw [plus_f _ _ _ _ (by omega)]
    simp only [Option.bind_some, Bool.false_or]
    rw [round_pos64 (k + 1) (by omega) _ _ a1 (by omega) _ (-1074 + (E : Int) - 60) (by omega) (by omega) (fun h => by have := a2 h; rw [show FloatKind.f64.format.fractionBits = 52 from rfl] at this; omega)]
    rw [a3, show (-1074 + (G : Int) + ((E - G : Nat) : Int) - 60 - 1) = -1074 + (E : Int) - 60 - 1 by omega]
    rfl
  · rw [if_neg (by simpa using hs), if_neg hs]
    obtain ⟨a1, a2, a3⟩ := near_diff' FloatKind.f64.format (sgn FloatKind.f64.format x.toNat) M N (E - G) (-1074 + (G : Int)) (fun h => hM2 (by omega)) hNF hcmp
    rw [show k + 7 = (k + 6) + 1 from rfl, minus_f (k + 6) _ _ _ _ (by omega) a1]
    simp only [Option.bind_some, Bool.false_or]
    by_cases hz : N = M * 2 ^ (E - G)
    · obtain ⟨b1, b2⟩ := a2 hz
      rw [if_pos hz, b1, b2]
      have e0 : 2 ^ 60 * M - 2 ^ 60 * M - (decide ((0 : Nat) ≠ 0)).toNat = 0 := by simp
      rw [e0, show hiW 0 = 0 by decide, show loW 0 = 0 by decide, if_pos rfl, if_pos rfl]
      rw [ratchetref04_Format_sum.j1]
      rfl
    · obtain ⟨b1, b2, b3⟩ := a3 (by omega)
      rw [if_neg hz, b3]
      obtain ⟨W, hW⟩ : ∃ W, 2 ^ 60 * M - 2 ^ 60 * N / 2 ^ (E - G) - (decide (2 ^ 60 * N % 2 ^ (E - G) ≠ 0)).toNat = W := ⟨_, rfl⟩
      rw [hW] at b1 b2 ⊢
      have hW2 : W < 340282366920938463463374607431768211456 := Nat.lt_of_le_of_lt (show W ≤ 2 ^ 60 * M by rw [← hW]; exact Nat.le_trans (Nat.sub_le _ _) (Nat.sub_le _ _)) (by omega)
      have hj : ratchetref04_Format_sum.j1 (k + 6 + 1) x (-1074 + (E : Int)) false 52 11 (hiW W) (loW W) (decide (2 ^ 60 * N % 2 ^ (E - G) ≠ 0)) = some ((FloatKind.f64.format.nearest (sgn FloatKind.f64.format x.toNat) (2 * W + (decide (2 ^ 60 * N % 2 ^ (E - G) ≠ 0)).toNat) (-1074 + (G : Int) + ((E - G : Nat) : Int) - 60 - 1) : Nat) : Int) := by
        rw [ratchetref04_Format_sum.j1]
        simp only [Bool.false_eq_true, if_false]
        rw [below64 x hx0 hx1]
        simp only [Option.bind_some]
        rw [show wrap64 (-1074 + (E : Int) - 60) = -1074 + (E : Int) - 60 by unfold wrap64; omega, round_pos64 k (by omega) _ _ b1 hW2 _ (-1074 + (E : Int) - 60) (by omega) (by omega) (fun h => by have := b2 h; rw [show FloatKind.f64.format.fractionBits = 52 from rfl] at this; omega)]
        rw [show (-1074 + (G : Int) + ((E - G : Nat) : Int) - 60 - 1) = -1074 + (E : Int) - 60 - 1 by omega]
        rfl
      by_cases c : hiW W = 0
      · rw [if_pos c]
        have c2 : ¬ loW W = 0 := by unfold hiW at c; unfold loW; omega
        rw [if_neg c2]
        exact hj
      · rw [if_neg c]
        exact hj

end Go.Proofs.Ytapfapngcncaeaa.QF
