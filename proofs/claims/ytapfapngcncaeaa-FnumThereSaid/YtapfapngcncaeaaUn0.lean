/- The reference's root and its roundings to whole numbers are the model's. -/
import Derived.Test.YtapfapngcncaeaaQFx9
import Derived.Test.YtapfapngcncaeaaQFx10
import Derived.Test.YtapfapngcncaeaaParts
import Derived.Test.YtapfapngcncaeaaQuo0
namespace Go.Proofs.Ytapfapngcncaeaa.Ie
open Ieee
/-- A number made whole, away from its sign. -/
def wholeK (way : Toward) (s : Bool) (m : Nat) (i : Int) : Nat := way.cut s (m <<< i.toNat) (-i).toNat

theorem cut_small (way : Toward) (s : Bool) (m d : Nat) : way.cut s m d =
    match way with
    | .even => reven m (2 ^ d)
    | .down => m / 2 ^ d + (s && decide (m % 2 ^ d ≠ 0)).toNat
    | .up => m / 2 ^ d + (!s && decide (m % 2 ^ d ≠ 0)).toNat
    | .zero => m / 2 ^ d := by
  have h1 := log2_lt' m
  have key : ∀ b : Bool, m / 1 <<< min d (m.log2 + 2) + (b && (m % 1 <<< min d (m.log2 + 2) != 0)).toNat = m / 2 ^ d + (b && decide (m % 2 ^ d ≠ 0)).toNat ∧ m / 1 <<< min d (m.log2 + 2) = m / 2 ^ d := by
    intro b
    rw [Nat.shiftLeft_eq, Nat.one_mul]
    rcases Nat.le_total d (m.log2 + 2) with h | h
    · rw [Nat.min_eq_left h]
      refine ⟨?_, rfl⟩
      congr 3
      rw [Bool.eq_iff_iff]; simp
    · rw [Nat.min_eq_right h]
      have h2 : (2 : Nat) ^ (m.log2 + 2) = 2 * 2 ^ (m.log2 + 1) := by rw [show m.log2 + 2 = m.log2 + 1 + 1 from rfl, Nat.pow_succ, Nat.mul_comm]
      have h3 : (2 : Nat) ^ (m.log2 + 2) ≤ 2 ^ d := Nat.pow_le_pow_right (by decide) h
      rw [Nat.div_eq_of_lt (show m < 2 ^ (m.log2 + 2) by omega), Nat.mod_eq_of_lt (show m < 2 ^ (m.log2 + 2) by omega), Nat.div_eq_of_lt (show m < 2 ^ d by omega), Nat.mod_eq_of_lt (show m < 2 ^ d by omega)]
      refine ⟨?_, rfl⟩
      congr 3
      rw [Bool.eq_iff_iff]; simp
  cases way
  · exact cut_even s m d
  · exact (key s).1
  · exact (key (!s)).1
  · show m / 1 <<< min d (m.log2 + 2) + (false).toNat = _
    rw [(key false).2]; rfl

theorem wholeK_scale (way : Toward) (s : Bool) (m j : Nat) (i : Int) : wholeK way s (m * 2 ^ j) (i - j) = wholeK way s m i := by
  have hj : 0 < 2 ^ j := Nat.two_pow_pos j
  unfold wholeK
  rw [cut_small, cut_small, Nat.shiftLeft_eq, Nat.shiftLeft_eq]
  -- both as a quotient by a power of two
  have key : ∃ g c : Nat, 0 < c ∧ m * 2 ^ j * 2 ^ (i - j).toNat = (m * 2 ^ i.toNat) * c ∧ 2 ^ (-(i - j)).toNat = 2 ^ (-i).toNat * c ∨ (2 ^ (-(i - j)).toNat = 1 ∧ 2 ^ (-i).toNat = 1 ∧ m * 2 ^ j * 2 ^ (i - j).toNat = m * 2 ^ i.toNat ∧ g = 0 ∧ c = 0) := by
    rcases Int.le_total (j : Int) i with h | h
    · refine ⟨0, 0, .inr ⟨?_, ?_, ?_, rfl, rfl⟩⟩
      · rw [show (-(i - j)).toNat = 0 by omega]
      · rw [show (-i).toNat = 0 by omega]
      · rw [Nat.mul_assoc, ← Nat.pow_add]; congr 2; omega
    · rcases Int.le_total 0 i with h2 | h2
      · refine ⟨0, 2 ^ (j - i.toNat), .inl ⟨Nat.two_pow_pos _, ?_, ?_⟩⟩
        · rw [show (i - j).toNat = 0 by omega, Nat.pow_zero, Nat.mul_one, Nat.mul_assoc, ← Nat.pow_add]; congr 2; omega
        · rw [show (-i).toNat = 0 by omega, Nat.pow_zero, Nat.one_mul]; congr 1; omega
      · refine ⟨0, 2 ^ j, .inl ⟨hj, ?_, ?_⟩⟩
        · rw [show (i - j).toNat = 0 by omega, show i.toNat = 0 by omega, Nat.pow_zero, Nat.mul_one, Nat.mul_one]
        · rw [← Nat.pow_add]; congr 1; omega
  obtain ⟨g, c, ⟨hc, e1, e2⟩ | ⟨e1, e2, e3, _⟩⟩ := key
  · have hz : ∀ a b : Nat, (a * c % (b * c) ≠ 0) ↔ (a % b ≠ 0) := by
      intro a b
      rw [Nat.mul_mod_mul_right]
      constructor
      · intro h h'; apply h; rw [h', Nat.zero_mul]
      · intro h h'; apply h; rcases Nat.mul_eq_zero.1 h' with h'' | h''
        · exact h''
        · omega
    rw [e1, e2]
    cases way
    · exact reven_mul _ _ _ hc
    · simp only [Nat.mul_div_mul_right _ _ hc, hz]
    · simp only [Nat.mul_div_mul_right _ _ hc, hz]
    · simp only [Nat.mul_div_mul_right _ _ hc]
  · rw [e1, e2, e3]
theorem wholeK_pos (way : Toward) (s : Bool) (m : Nat) (i : Int) (h : 0 ≤ i) : wholeK way s m i = m * 2 ^ i.toNat := by
  unfold wholeK
  rw [cut_small, Nat.shiftLeft_eq, show (-i).toNat = 0 by omega, Nat.pow_zero]
  cases way
  · exact reven_one _
  · simp [Nat.mod_one]
  · simp [Nat.mod_one]
  · simp
end Go.Proofs.Ytapfapngcncaeaa.Ie
namespace Go.Proofs.Ytapfapngcncaeaa.QF
open Go.RowKit Go.Proofs.YtapfapngcncaeaaW.PrintWords Go.Proofs.YtapfapngcncaeaaW.PrintLast Go.Proofs.YtapfapngcncaeaaW.PrintMore Go.Proofs.Ytapfapngcncaeaa.Ie Go.Proofs.Ytapfapngcncaeaa.Rf
def wayOf (k : Int) : Ieee.Toward := if k = 2 then .up else if k = 3 then .down else if k = 4 then .zero else .even

theorem wrap_succ (K : Nat) (h : K < 18446744073709551615) : ((K : Int) + 1) % 18446744073709551616 = ((K + 1 : Nat) : Int) := by omega
theorem and1_nat (K : Nat) (h : K < 18446744073709551616) : bits .and .u64 (K : Int) 1 = ((K % 2 : Nat) : Int) := by
  rw [and1 _ (by omega) (by omega)]; omega

theorem reven_up (w d : Nat) (hd : 1 ≤ d) : reven w (2 ^ d) = keptUp w d false := by
  have h := reven_sticky w d false hd
  rw [Bool.toNat_false, Nat.add_zero, Nat.pow_succ, Nat.mul_comm 2 w] at h
  rw [← h]
  exact (reven_mul w (2 ^ d) 2 (by decide)).symm


theorem exf_small_32 (r : Nat) (h : r < FloatKind.f32.format.infRung) : exf FloatKind.f32.format r ≤ 3000 := by
  unfold exf
  rw [show FloatKind.f32.format.binade = 8388608 by decide]
  rw [show FloatKind.f32.format.infRung = 2139095040 by decide] at h
  split <;> omega

theorem whole_32 (k : Nat) (hk : 500 ≤ k) (op : Int) (h2 : 2 ≤ op) (h5 : op ≤ 5) (x : Int) (hx0 : 0 ≤ x) (hx1 : x < 4294967296)
    (hx : rung FloatKind.f32.format x.toNat < FloatKind.f32.format.infRung) (hne : rung FloatKind.f32.format x.toNat ≠ 0) :
    ratchetref04_Format_whole.f (k + 8) 23 8 op x = some ((FloatKind.f32.format.nearest (sgn FloatKind.f32.format x.toNat) (wholeK (wayOf op) (sgn FloatKind.f32.format x.toNat) (sgf FloatKind.f32.format (rung FloatKind.f32.format x.toNat)) (-149 + (exf FloatKind.f32.format (rung FloatKind.f32.format x.toNat) : Int))) 0 : Nat) : Int) := by
  have hE := exf_small_32 _ hx
  have hM := sgf_lt FloatKind.f32.format (rung FloatKind.f32.format x.toNat)
  rw [show FloatKind.f32.format.binade = 8388608 by decide] at hM
  have hr := rung32 x hx0
  have hmag := mag_parts FloatKind.f32.format (rung FloatKind.f32.format x.toNat)
  have hM0 : 0 < sgf FloatKind.f32.format (rung FloatKind.f32.format x.toNat) := by have := sgf_zero FloatKind.f32.format (rung FloatKind.f32.format x.toNat); omega
  have hxw : (FloatKind.f32.format.word (sgn FloatKind.f32.format x.toNat) (rung FloatKind.f32.format x.toNat) : Int) = x := by
    rw [word32]
    unfold sgn
    rw [show FloatKind.f32.format.signWeight = 2147483648 by decide]
    have hq : x.toNat / 2147483648 = 0 ∨ x.toNat / 2147483648 = 1 := by omega
    rcases hq with hq | hq
    · rw [hq, hr]; simp; omega
    · rw [hq, hr]; simp; omega
  have hexact := nearest_exact FloatKind.f32.format (sgn FloatKind.f32.format x.toNat) (rung FloatKind.f32.format x.toNat) (sgf FloatKind.f32.format (rung FloatKind.f32.format x.toNat)) (exf FloatKind.f32.format (rung FloatKind.f32.format x.toNat)) hx hmag.symm
  rw [show FloatKind.f32.format.leastPlace = -149 by decide] at hexact
  unfold ratchetref04_Format_whole.f
  rw [parts32 x hx0 (by omega), size32 x hx0 (by omega)]
  simp only [Option.bind_some]
  have hb := below32 x hx0 (by omega)
  rw [← hr]
  generalize rung FloatKind.f32.format x.toNat = r at hx hne hE hM hmag hM0 hxw hexact ⊢
  generalize sgf FloatKind.f32.format r = M at hM hmag hM0 hexact ⊢
  generalize exf FloatKind.f32.format r = E at hE hmag hexact ⊢
  generalize sgn FloatKind.f32.format x.toNat = s at hb hxw hexact ⊢
  by_cases c : -149 + (E : Int) ≥ 0
  · rw [if_pos c, ratchetref04_Format_whole.j0, if_pos rfl, wholeK_pos _ _ _ _ c]
    have hs := nearest_scale FloatKind.f32.format s M (-149 + (E : Int)).toNat (-149 + (E : Int))
    rw [show -149 + (E : Int) - ((-149 + (E : Int)).toNat : Int) = 0 by omega] at hs
    rw [hs, hexact, hxw]
  · rw [if_neg c, ratchetref04_Format_whole.j0]
    have hz : ((r : Int) == 0) = false := by simp; omega
    rw [hz, if_neg (by decide), show wrap64 (-(-149 + (E : Int))) = -(-149 + (E : Int)) by unfold wrap64; omega]
    obtain ⟨d, hd⟩ : ∃ d : Nat, -(-149 + (E : Int)) = d := ⟨(-(-149 + (E : Int))).toNat, by omega⟩
    have hd1 : 1 ≤ d := by omega
    have hR := right_f (k + 7) (d : Int) M false (by omega) (by omega) (by omega)
    rw [hiW_zero (w := M) (by omega), loW_small (w := M) (by omega), Int.toNat_natCast, Bool.false_or] at hR
    have hR2 := right_f (k + 7) ((d : Int) - 1) M false (by omega) (by omega) (by omega)
    rw [hiW_zero (w := M) (by omega), loW_small (w := M) (by omega), show ((d : Int) - 1).toNat = d - 1 by omega, Bool.false_or] at hR2
    rw [hd, hR, show wrap64 ((d : Int) - 1) = (d : Int) - 1 by unfold wrap64; omega, hR2, hb]
    simp only [Option.bind_some]
    have hqle : M / 2 ^ d ≤ M := Nat.div_le_self _ _
    have hK : wholeK (wayOf op) s M (-149 + (E : Int)) = (wayOf op).cut s M d := by
      unfold wholeK
      rw [show (-149 + (E : Int)).toNat = 0 by omega, Nat.shiftLeft_zero, hd, Int.toNat_natCast]
    rw [hK, cut_small, loW_small (w := M / 2 ^ d) (Nat.lt_of_le_of_lt hqle (by omega))]
    -- the end: rounded to the format
    have fin : ∀ (up : Bool) (hi : Int) (mo : Bool), ratchetref04_Format_whole.j1 (k + 6 + 1) x up 23 8 hi ((M / 2 ^ d : Nat) : Int) mo = some ((FloatKind.f32.format.nearest s (M / 2 ^ d + up.toNat) 0 : Nat) : Int) := by
      intro up hi mo
      have rnd : ∀ K : Nat, K < 18446744073709551616 → ratchetref04_Format_Round.f (k + 6) 23 8 s 0 (K : Int) false 0 = some ((FloatKind.f32.format.nearest s K 0 : Nat) : Int) := by
        intro K hKl
        by_cases h0 : K = 0
        · subst h0
          have := round_zero32 k (by omega) s false 0 (by decide) (by decide)
          rw [show ((0 : Nat) : Int) = 0 from rfl, this]
          unfold Ieee.Format.nearest
          rw [if_pos rfl]
        · have h := round_pos32 k (by omega) s K (by omega) (by omega) false 0 (by decide) (by decide) (fun h => by cases h)
          rw [hiW_zero hKl, loW_small hKl, Bool.toNat_false, Nat.add_zero] at h
          rw [h]
          have hs := nearest_scale FloatKind.f32.format s K 1 0
          rw [Nat.pow_one, Nat.mul_comm K 2] at hs
          rw [← hs]; rfl
      rw [ratchetref04_Format_whole.j1, hb]
      simp only [Option.bind_some]
      cases up with
      | true =>
        rw [if_pos rfl, IntKind.wrap_u64, wrap_succ _ (Nat.lt_of_le_of_lt hqle (by omega)), rnd _ (Nat.lt_of_le_of_lt (Nat.succ_le_succ hqle) (by omega))]; rfl
      | false => rw [if_neg (by decide), rnd _ (Nat.lt_of_le_of_lt hqle (by omega))]; rfl
    have a1 : ∀ y : Nat, bits .and .u64 (loW y) 1 = ((y % 2 : Nat) : Int) := by
      intro y
      rw [and1 _ (by unfold loW; omega) (by unfold loW; omega)]; unfold loW; omega
    have a2 : bits .and .u64 ((M / 2 ^ d : Nat) : Int) 1 = ((M / 2 ^ d % 2 : Nat) : Int) := and1_nat _ (Nat.lt_of_le_of_lt hqle (by omega))
    have hop : op = 2 ∨ op = 3 ∨ op = 4 ∨ op = 5 := by omega
    rcases hop with rfl | rfl | rfl | rfl
    · rw [if_pos rfl, show wayOf 2 = .up from rfl]
      simp only [fin]
      by_cases h : M % 2 ^ d ≠ 0
      · rw [show decide (M % 2 ^ d ≠ 0) = true by simpa using h]; cases s <;> rfl
      · rw [show decide (M % 2 ^ d ≠ 0) = false by simpa using h]; cases s <;> rfl
    · rw [if_neg (by decide), if_pos rfl, show wayOf 3 = .down from rfl]
      simp only [fin]
      by_cases h : M % 2 ^ d ≠ 0
      · rw [show decide (M % 2 ^ d ≠ 0) = true by simpa using h]; cases s <;> rfl
      · rw [show decide (M % 2 ^ d ≠ 0) = false by simpa using h]; cases s <;> rfl
    · rw [if_neg (by decide), if_neg (by decide), if_neg (by decide), show wayOf 4 = .zero from rfl]
      simp only [fin]
      rfl
    · rw [if_neg (by decide), if_neg (by decide), if_pos rfl, show wayOf 5 = .even from rfl]
      simp only [fin, a1, a2]
      rw [reven_up _ _ hd1]
      unfold keptUp
      have hb1 : M / 2 ^ (d - 1) % 2 = 0 ∨ M / 2 ^ (d - 1) % 2 = 1 := by omega
      rcases hb1 with hb1 | hb1
      · rw [hb1, if_neg (by decide), if_neg (by simp)]; rfl
      · rw [hb1, if_pos (by decide)]
        by_cases h : M % 2 ^ (d - 1) ≠ 0
        · rw [if_pos (by simpa using h), if_pos ⟨rfl, .inr (.inl h)⟩]; rfl
        · rw [if_neg (by simpa using h)]
          have hb2 : M / 2 ^ d % 2 = 0 ∨ M / 2 ^ d % 2 = 1 := by omega
          rcases hb2 with hb2 | hb2
          · rw [hb2, if_neg (by simp; omega)]; rfl
          · rw [hb2, if_pos ⟨rfl, .inr (.inr rfl)⟩]; rfl


theorem exf_small_64 (r : Nat) (h : r < FloatKind.f64.format.infRung) : exf FloatKind.f64.format r ≤ 3000 := by
  unfold exf
  rw [show FloatKind.f64.format.binade = 4503599627370496 by decide]
  rw [show FloatKind.f64.format.infRung = 9218868437227405312 by decide] at h
  split <;> omega

theorem whole_64 (k : Nat) (hk : 500 ≤ k) (op : Int) (h2 : 2 ≤ op) (h5 : op ≤ 5) (x : Int) (hx0 : 0 ≤ x) (hx1 : x < 18446744073709551616)
    (hx : rung FloatKind.f64.format x.toNat < FloatKind.f64.format.infRung) (hne : rung FloatKind.f64.format x.toNat ≠ 0) :
    ratchetref04_Format_whole.f (k + 8) 52 11 op x = some ((FloatKind.f64.format.nearest (sgn FloatKind.f64.format x.toNat) (wholeK (wayOf op) (sgn FloatKind.f64.format x.toNat) (sgf FloatKind.f64.format (rung FloatKind.f64.format x.toNat)) (-1074 + (exf FloatKind.f64.format (rung FloatKind.f64.format x.toNat) : Int))) 0 : Nat) : Int) := by
  have hE := exf_small_64 _ hx
  have hM := sgf_lt FloatKind.f64.format (rung FloatKind.f64.format x.toNat)
  rw [show FloatKind.f64.format.binade = 4503599627370496 by decide] at hM
  have hr := rung64 x hx0
  have hmag := mag_parts FloatKind.f64.format (rung FloatKind.f64.format x.toNat)
  have hM0 : 0 < sgf FloatKind.f64.format (rung FloatKind.f64.format x.toNat) := by have := sgf_zero FloatKind.f64.format (rung FloatKind.f64.format x.toNat); omega
  have hxw : (FloatKind.f64.format.word (sgn FloatKind.f64.format x.toNat) (rung FloatKind.f64.format x.toNat) : Int) = x := by
    rw [word64]
    unfold sgn
    rw [show FloatKind.f64.format.signWeight = 9223372036854775808 by decide]
    have hq : x.toNat / 9223372036854775808 = 0 ∨ x.toNat / 9223372036854775808 = 1 := by omega
    rcases hq with hq | hq
    · rw [hq, hr]; simp; omega
    · rw [hq, hr]; simp; omega
  have hexact := nearest_exact FloatKind.f64.format (sgn FloatKind.f64.format x.toNat) (rung FloatKind.f64.format x.toNat) (sgf FloatKind.f64.format (rung FloatKind.f64.format x.toNat)) (exf FloatKind.f64.format (rung FloatKind.f64.format x.toNat)) hx hmag.symm
  rw [show FloatKind.f64.format.leastPlace = -1074 by decide] at hexact
  unfold ratchetref04_Format_whole.f
  rw [parts64 x hx0 (by omega), size64 x hx0 (by omega)]
  simp only [Option.bind_some]
  have hb := below64 x hx0 (by omega)
  rw [← hr]
  generalize rung FloatKind.f64.format x.toNat = r at hx hne hE hM hmag hM0 hxw hexact ⊢
  generalize sgf FloatKind.f64.format r = M at hM hmag hM0 hexact ⊢
  generalize exf FloatKind.f64.format r = E at hE hmag hexact ⊢
  generalize sgn FloatKind.f64.format x.toNat = s at hb hxw hexact ⊢
  by_cases c : -1074 + (E : Int) ≥ 0
  · rw [if_pos c, ratchetref04_Format_whole.j0, if_pos rfl, wholeK_pos _ _ _ _ c]
    have hs := nearest_scale FloatKind.f64.format s M (-1074 + (E : Int)).toNat (-1074 + (E : Int))
    rw [show -1074 + (E : Int) - ((-1074 + (E : Int)).toNat : Int) = 0 by omega] at hs
    rw [hs, hexact, hxw]
  · rw [if_neg c, ratchetref04_Format_whole.j0]
    have hz : ((r : Int) == 0) = false := by simp; omega
    rw [hz, if_neg (by decide), show wrap64 (-(-1074 + (E : Int))) = -(-1074 + (E : Int)) by unfold wrap64; omega]
    obtain ⟨d, hd⟩ : ∃ d : Nat, -(-1074 + (E : Int)) = d := ⟨(-(-1074 + (E : Int))).toNat, by omega⟩
    have hd1 : 1 ≤ d := by omega
    have hR := right_f (k + 7) (d : Int) M false (by omega) (by omega) (by omega)
    rw [hiW_zero (w := M) (by omega), loW_small (w := M) (by omega), Int.toNat_natCast, Bool.false_or] at hR
    have hR2 := right_f (k + 7) ((d : Int) - 1) M false (by omega) (by omega) (by omega)
    rw [hiW_zero (w := M) (by omega), loW_small (w := M) (by omega), show ((d : Int) - 1).toNat = d - 1 by omega, Bool.false_or] at hR2
    rw [hd, hR, show wrap64 ((d : Int) - 1) = (d : Int) - 1 by unfold wrap64; omega, hR2, hb]
    simp only [Option.bind_some]
    have hqle : M / 2 ^ d ≤ M := Nat.div_le_self _ _
    have hK : wholeK (wayOf op) s M (-1074 + (E : Int)) = (wayOf op).cut s M d := by
      unfold wholeK
      rw [show (-1074 + (E : Int)).toNat = 0 by omega, Nat.shiftLeft_zero, hd, Int.toNat_natCast]
    rw [hK, cut_small, loW_small (w := M / 2 ^ d) (Nat.lt_of_le_of_lt hqle (by omega))]
    -- the end: rounded to the format
    have fin : ∀ (up : Bool) (hi : Int) (mo : Bool), ratchetref04_Format_whole.j1 (k + 6 + 1) x up 52 11 hi ((M / 2 ^ d : Nat) : Int) mo = some ((FloatKind.f64.format.nearest s (M / 2 ^ d + up.toNat) 0 : Nat) : Int) := by
      intro up hi mo
      have rnd : ∀ K : Nat, K < 18446744073709551616 → ratchetref04_Format_Round.f (k + 6) 52 11 s 0 (K : Int) false 0 = some ((FloatKind.f64.format.nearest s K 0 : Nat) : Int) := by
        intro K hKl
        by_cases h0 : K = 0
        · subst h0
          have := round_zero64 k (by omega) s false 0 (by decide) (by decide)
          rw [show ((0 : Nat) : Int) = 0 from rfl, this]
          unfold Ieee.Format.nearest
          rw [if_pos rfl]
        · have h := round_pos64 k (by omega) s K (by omega) (by omega) false 0 (by decide) (by decide) (fun h => by cases h)
          rw [hiW_zero hKl, loW_small hKl, Bool.toNat_false, Nat.add_zero] at h
          rw [h]
          have hs := nearest_scale FloatKind.f64.format s K 1 0
          rw [Nat.pow_one, Nat.mul_comm K 2] at hs
          rw [← hs]; rfl
      rw [ratchetref04_Format_whole.j1, hb]
      simp only [Option.bind_some]
      cases up with
      | true =>
        rw [if_pos rfl, IntKind.wrap_u64, wrap_succ _ (Nat.lt_of_le_of_lt hqle (by omega)), rnd _ (Nat.lt_of_le_of_lt (Nat.succ_le_succ hqle) (by omega))]; rfl
      | false => rw [if_neg (by decide), rnd _ (Nat.lt_of_le_of_lt hqle (by omega))]; rfl
    have a1 : ∀ y : Nat, bits .and .u64 (loW y) 1 = ((y % 2 : Nat) : Int) := by
      intro y
      rw [and1 _ (by unfold loW; omega) (by unfold loW; omega)]; unfold loW; omega
    have a2 : bits .and .u64 ((M / 2 ^ d : Nat) : Int) 1 = ((M / 2 ^ d % 2 : Nat) : Int) := and1_nat _ (Nat.lt_of_le_of_lt hqle (by omega))
    have hop : op = 2 ∨ op = 3 ∨ op = 4 ∨ op = 5 := by omega
    rcases hop with rfl | rfl | rfl | rfl
    · rw [if_pos rfl, show wayOf 2 = .up from rfl]
      simp only [fin]
      by_cases h : M % 2 ^ d ≠ 0
      · rw [show decide (M % 2 ^ d ≠ 0) = true by simpa using h]; cases s <;> rfl
      · rw [show decide (M % 2 ^ d ≠ 0) = false by simpa using h]; cases s <;> rfl
    · rw [if_neg (by decide), if_pos rfl, show wayOf 3 = .down from rfl]
      simp only [fin]
      by_cases h : M % 2 ^ d ≠ 0
      · rw [show decide (M % 2 ^ d ≠ 0) = true by simpa using h]; cases s <;> rfl
      · rw [show decide (M % 2 ^ d ≠ 0) = false by simpa using h]; cases s <;> rfl
    · rw [if_neg (by decide), if_neg (by decide), if_neg (by decide), show wayOf 4 = .zero from rfl]
      simp only [fin]
      rfl
    · rw [if_neg (by decide), if_neg (by decide), if_pos rfl, show wayOf 5 = .even from rfl]
      simp only [fin, a1, a2]
      rw [reven_up _ _ hd1]
      unfold keptUp
      have hb1 : M / 2 ^ (d - 1) % 2 = 0 ∨ M / 2 ^ (d - 1) % 2 = 1 := by omega
      rcases hb1 with hb1 | hb1
      · rw [hb1, if_neg (by decide), if_neg (by simp)]; rfl
      · rw [hb1, if_pos (by decide)]
        by_cases h : M % 2 ^ (d - 1) ≠ 0
        · rw [if_pos (by simpa using h), if_pos ⟨rfl, .inr (.inl h)⟩]; rfl
        · rw [if_neg (by simpa using h)]
          have hb2 : M / 2 ^ d % 2 = 0 ∨ M / 2 ^ d % 2 = 1 := by omega
          rcases hb2 with hb2 | hb2
          · rw [hb2, if_neg (by simp; omega)]; rfl
          · rw [hb2, if_pos ⟨rfl, .inr (.inr rfl)⟩]; rfl

end Go.Proofs.Ytapfapngcncaeaa.QF
