/- The root of a float32, reckoned in float64 and rounded to float32, is the float32's root. -/
import Derived.Test.YtapfapngcncaeaaDbl
import Derived.Test.YtapfapngcncaeaaQuo0
namespace Go.Proofs.Ytapfapngcncaeaa.Ie
open Ieee

theorem reven8 (T : Nat) : reven T 8 = T / 8 + (if 8 < 2 * (T % 8) ∨ (8 = 2 * (T % 8) ∧ T / 8 % 2 = 1) then 1 else 0) := rfl
theorem dbl (T : Nat) (h : ¬ (2147483648 ≤ T % 4294967296 + 4 ∧ T % 4294967296 ≤ 2147483648 + 4)) : reven (reven T 8) 536870912 = reven T 4294967296 := by
  have hK : ∃ K, reven T 8 = K ∧ (K = T / 8 ∧ T % 8 ≤ 4 ∨ K = T / 8 + 1 ∧ 4 ≤ T % 8) := by
    refine ⟨_, rfl, ?_⟩
    unfold reven
    split <;> omega
  obtain ⟨K, hK, h2⟩ := hK
  rw [hK]
  unfold reven
  rcases h2 with ⟨rfl, h3⟩ | ⟨rfl, h3⟩
  · split <;> split <;> omega
  · split <;> split <;> omega

/-- A root is no near neighbour of a midpoint of 24 digits. -/
theorem far_mid (n w σ Y : Nat) (hn : n = 4611686018427387904 * Y) (hw : IsRoot n w) (hlt : w < 36028797018963968) (hσ : σ ≤ 1) :
    ¬ (2147483648 ≤ (2 * w + σ) % 4294967296 + 4 ∧ (2 * w + σ) % 4294967296 ≤ 2147483648 + 4) := by
  rintro ⟨h1, h2⟩
  obtain ⟨H, hH⟩ : ∃ H, (2 * w + σ) / 4294967296 = H := ⟨_, rfl⟩
  -- the midpoint's half
  obtain ⟨h, hh⟩ : ∃ h, h = 2147483648 * H + 1073741824 := ⟨_, rfl⟩
  have hlo : h ≤ w + 2 := by omega
  have hhi : w ≤ h + 2 := by omega
  have hsq : h * h = 4611686018427387904 * (H * (H + 1)) + 1152921504606846976 := by
    rw [hh, Nat.mul_add, Nat.add_mul, Nat.add_mul, Nat.mul_add]
    have e1 : 2147483648 * H * (2147483648 * H) = 4611686018427387904 * (H * H) := by
      rw [Nat.mul_mul_mul_comm]
    rw [e1]; omega
  obtain ⟨u, hu⟩ : ∃ u, h = u + 2 := ⟨h - 2, by omega⟩
  have a1 : u * u ≤ n := Nat.le_trans (Nat.mul_le_mul (show u ≤ w by omega) (show u ≤ w by omega)) hw.1
  have a2 : n < (h + 3) * (h + 3) := Nat.lt_of_lt_of_le hw.2 (Nat.mul_le_mul (by omega) (by omega))
  have a3 : (h + 3) * (h + 3) = h * h + 6 * h + 9 := by rw [Nat.mul_add, Nat.add_mul]; omega
  have a4 : h * h = u * u + 4 * u + 4 := by rw [hu, Nat.mul_add, Nat.add_mul]; omega
  generalize H * (H + 1) = Z at hsq
  generalize u * u = U at a1 a4
  generalize h * h = P at hsq a3 a4
  generalize (h + 3) * (h + 3) = Q at a2 a3
  omega
end Go.Proofs.Ytapfapngcncaeaa.Ie
namespace Go.Proofs.Ytapfapngcncaeaa.Fl
open Go.Proofs.Ytapfapngcncaeaa.Ie

theorem near64_T (T : Nat) (g : Int) (h1 : 36028797018963968 ≤ T) (h2 : T < 72057594037927936) (hg : -1000 ≤ g) (hg2 : g ≤ 500) :
    ∃ (r K L : Nat), r < FloatKind.f64.format.infRung ∧ K = reven T 8 ∧ (L : Int) = g + 1077 ∧ FloatKind.f64.format.nearest false T g = FloatKind.f64.format.word false r ∧ mag FloatKind.f64.format r = K * 2 ^ L := by
  have hlog : T.log2 = 55 := by
    rw [Nat.log2_eq_iff (by omega)]
    exact ⟨by simpa using h1, by simpa using h2⟩
  have hl : lastP FloatKind.f64.format T g = g + 3 := by
    unfold lastP
    rw [hlog, f64_lp, show FloatKind.f64.format.fractionBits = 52 from rfl]; omega
  have hkept : keptN FloatKind.f64.format T g = reven T 8 := by
    unfold keptN
    rw [hl, show (g - (g + 3)).toNat = 0 by omega, show (g + 3 - g).toNat = 3 by omega, Nat.pow_zero, Nat.mul_one]
  have hK1 : 4503599627370496 ≤ reven T 8 := by rw [reven8]; omega
  have hK2 : reven T 8 ≤ 9007199254740992 := by rw [reven8]; split <;> omega
  obtain ⟨L, hL⟩ : ∃ L : Nat, (L : Int) = g + 1077 := ⟨(g + 1077).toNat, by omega⟩
  have hn := nearest_eq FloatKind.f64.format false T g (by omega)
  rw [hl, hkept, f64_lp, f64_inf, show FloatKind.f64.format.binade = 4503599627370496 by decide, show (g + 3 - -1074).toNat = L by omega] at hn
  refine ⟨L * 4503599627370496 + reven T 8, reven T 8, L, by rw [f64_inf]; omega, rfl, hL, ?_, ?_⟩
  · rw [hn, Nat.min_eq_left (by omega)]
  · generalize reven T 8 = K at hK1 hK2 ⊢
    unfold mag
    rw [show FloatKind.f64.format.binade = 4503599627370496 by decide, if_neg (by omega)]
    by_cases c : K = 9007199254740992
    · rw [show (L * 4503599627370496 + K) % 4503599627370496 = 0 by omega, show (L * 4503599627370496 + K) / 4503599627370496 - 1 = L + 1 by omega, c, Nat.pow_succ, Nat.mul_comm (2 ^ L) 2, ← Nat.mul_assoc]
    · rw [show 4503599627370496 + (L * 4503599627370496 + K) % 4503599627370496 = K by omega, show (L * 4503599627370496 + K) / 4503599627370496 - 1 = L by omega]

theorem near32_T (T K : Nat) (g : Int) (h1 : 36028797018963968 ≤ T) (h2 : T < 72057594037927936) (hg : -150 ≤ g) (hg2 : g ≤ 50)
    (hno : ¬ (2147483648 ≤ T % 4294967296 + 4 ∧ T % 4294967296 ≤ 2147483648 + 4)) (hK : K = reven T 8) :
    FloatKind.f32.format.nearest false K (g + 3) = FloatKind.f32.format.nearest false T g ∧ ∃ r, r < FloatKind.f32.format.infRung ∧ FloatKind.f32.format.nearest false T g = FloatKind.f32.format.word false r := by
  have hlog : T.log2 = 55 := by
    rw [Nat.log2_eq_iff (by omega)]
    exact ⟨by simpa using h1, by simpa using h2⟩
  have hl : lastP FloatKind.f32.format T g = g + 32 := by
    unfold lastP
    rw [hlog, f32_lp, show FloatKind.f32.format.fractionBits = 23 from rfl]; omega
  have hkept : keptN FloatKind.f32.format T g = reven T 4294967296 := by
    unfold keptN
    rw [hl, show (g - (g + 32)).toNat = 0 by omega, show (g + 32 - g).toNat = 32 by omega, Nat.pow_zero, Nat.mul_one]
  have hd := dbl T hno
  rw [← hK] at hd
  have hK1 : 4503599627370496 ≤ K := by rw [hK, reven8]; omega
  have hK2 : K ≤ 9007199254740992 := by rw [hK, reven8]; split <;> omega
  have hn := nearest_eq FloatKind.f32.format false T g (by omega)
  rw [hl, hkept, f32_lp, f32_inf, show FloatKind.f32.format.binade = 8388608 by decide] at hn
  have hR1 : reven T 4294967296 ≤ 16777216 := by unfold reven; split <;> omega
  have hn2 : FloatKind.f32.format.nearest false T g = FloatKind.f32.format.word false ((g + 32 - -149).toNat * 8388608 + reven T 4294967296) := by
    rw [hn, Nat.min_eq_left (by omega)]
  refine ⟨?_, _, by rw [f32_inf]; omega, hn2⟩
  rw [hn2]
  have hk := nearest_eq FloatKind.f32.format false K (g + 3) (by omega)
  by_cases c : K = 9007199254740992
  · have hlogK : K.log2 = 53 := by rw [c]; decide
    have hlK : lastP FloatKind.f32.format K (g + 3) = g + 33 := by
      unfold lastP
      rw [hlogK, f32_lp, show FloatKind.f32.format.fractionBits = 23 from rfl]; omega
    have hkK : keptN FloatKind.f32.format K (g + 3) = 8388608 := by
      unfold keptN
      rw [hlK, show (g + 3 - (g + 33)).toNat = 0 by omega, show (g + 33 - (g + 3)).toNat = 30 by omega, Nat.pow_zero, Nat.mul_one, c]
      decide
    rw [c] at hd
    have hd2 : reven T 4294967296 = 16777216 := by rw [← hd]; rfl
    rw [hk, hlK, hkK, f32_lp, f32_inf, show FloatKind.f32.format.binade = 8388608 by decide, Nat.min_eq_left (by omega), hd2]
    have e : (g + 33 - -149).toNat * 8388608 + 8388608 = (g + 32 - -149).toNat * 8388608 + 16777216 := by omega
    rw [e]
  · have hlogK : K.log2 = 52 := by
      rw [Nat.log2_eq_iff (by omega)]
      exact ⟨by simpa using hK1, by simp only [Nat.reduceAdd, Nat.reducePow]; omega⟩
    have hlK : lastP FloatKind.f32.format K (g + 3) = g + 32 := by
      unfold lastP
      rw [hlogK, f32_lp, show FloatKind.f32.format.fractionBits = 23 from rfl]; omega
    have hkK : keptN FloatKind.f32.format K (g + 3) = reven T 4294967296 := by
      unfold keptN
      rw [hlK, show (g + 3 - (g + 32)).toNat = 0 by omega, show (g + 32 - (g + 3)).toNat = 29 by omega, Nat.pow_zero, Nat.mul_one]
      exact hd
    rw [hk, hlK, hkK, f32_lp, f32_inf, show FloatKind.f32.format.binade = 8388608 by decide, Nat.min_eq_left (by omega)]

theorem un32_sqrt (x : Nat) (v : Int) (h : Un32 6 x v) (hf : rung FloatKind.f32.format x < FloatKind.f32.format.infRung) (h0 : rung FloatKind.f32.format x ≠ 0) (hs : sgn FloatKind.f32.format x = false) :
    ∃ n : Nat, FloatKind.f32.format.sqrt x = some n ∧ v = n := by
  obtain ⟨d1, d2, r, h1, h2, h3, rfl⟩ := h
  rw [if_pos rfl] at h2
  obtain ⟨r1, hr1, hup, hmag⟩ := up_fin x hf
  rw [hs] at hup
  have hd1 : d1 = FloatKind.f64.format.word false r1 := by
    rcases h1 with h1 | ⟨h1, _⟩
    · rw [hup] at h1; cases h1; rfl
    · rw [hup] at h1; cases h1
  rw [hd1] at h2
  have hM := sgf_lt FloatKind.f32.format (rung FloatKind.f32.format x)
  have hM0 : 0 < sgf FloatKind.f32.format (rung FloatKind.f32.format x) := by have := sgf_zero FloatKind.f32.format (rung FloatKind.f32.format x); omega
  have hE : exf FloatKind.f32.format (rung FloatKind.f32.format x) ≤ 253 := by
    unfold exf
    rw [show FloatKind.f32.format.binade = 8388608 by decide]
    rw [f32_inf] at hf
    split <;> omega
  have hE0 : 0 < exf FloatKind.f32.format (rung FloatKind.f32.format x) → 8388608 ≤ sgf FloatKind.f32.format (rung FloatKind.f32.format x) := sgf_ge _ _
  rw [show FloatKind.f32.format.binade = 8388608 by decide] at hM
  have hmp := mag_parts FloatKind.f64.format r1
  rw [hmag] at hmp
  have hdec := decode_fin (k := .f32) x hf
  rw [hs, f32_lp] at hdec
  have hdec1 := decode_word (k := .f64) false hr1
  rw [f64_lp] at hdec1
  have hM1 := sgf_lt FloatKind.f64.format r1
  rw [show FloatKind.f64.format.binade = 4503599627370496 by decide] at hM1
  unfold Ieee.Format.sqrt at h2 ⊢
  unfold FloatKind.decode at hdec hdec1
  rw [hdec]
  rw [hdec1] at h2
  rw [show FloatKind.f64.format.fractionBits = 52 from rfl] at h2
  rw [show FloatKind.f32.format.fractionBits = 23 from rfl]
  generalize sgf FloatKind.f32.format (rung FloatKind.f32.format x) = M at hM hM0 hE0 hmp ⊢
  generalize exf FloatKind.f32.format (rung FloatKind.f32.format x) = E at hE hE0 hmp ⊢
  generalize sgf FloatKind.f64.format r1 = M1 at hM1 hmp h2
  generalize exf FloatKind.f64.format r1 = E1 at hmp h2
  have hM10 : 0 < M1 := by
    rcases Nat.eq_zero_or_pos M1 with h | h
    · exfalso
      rw [h, Nat.zero_mul] at hmp
      have := Nat.mul_pos hM0 (Nat.two_pow_pos (E + 925))
      omega
    · exact h
  -- the lengths of the two significands
  have hlen : M1.log2 + E1 = M.log2 + (E + 925) := by
    have a1 := log2_scale M1 E1 (by omega)
    have a2 := log2_scale M (E + 925) (by omega)
    rw [← hmp] at a1
    omega
  have hL : M.log2 ≤ 23 := by
    have := (Nat.log2_lt (n := M) (k := 24) (by omega)).2 (by simpa using hM)
    omega
  have hL1 : M1.log2 ≤ 52 := by
    have := (Nat.log2_lt (n := M1) (k := 53) (by omega)).2 (by simpa using hM1)
    omega
  have hLE : 0 < E → 23 ≤ M.log2 := fun h => log2_ge (by have := hE0 h; simpa using this)
  have hM1lo := Nat.log2_self_le (n := M1) (by omega)
  have hM1hi := log2_lt' M1
  have hMhi := log2_lt' M
  -- the float64's root
  simp only [Ieee.Datum.root] at h2 ⊢
  rw [if_neg (by omega), if_neg (by decide)] at h2 ⊢
  generalize hLM1 : M1.log2 = L1 at hlen hL1 hM1lo hM1hi h2
  generalize hLM : M.log2 = L at hlen hL hLE hMhi ⊢
  obtain ⟨a, ha⟩ : ∃ a : Nat, 2 * (52 + 2) - L1 + ((-1074 + (E1 : Int) - ((2 * (52 + 2) - L1 : Nat) : Int)) % 2).toNat = a := ⟨_, rfl⟩
  obtain ⟨b, hb⟩ : ∃ b : Nat, 2 * (23 + 2) - L + ((-149 + (E : Int) - ((2 * (23 + 2) - L : Nat) : Int)) % 2).toNat = b := ⟨_, rfl⟩
  rw [ha] at h2
  rw [hb]
  have hapar : (-1074 + (E1 : Int) - a) % 2 = 0 := by omega
  have ha1 : 108 - L1 ≤ a ∧ a ≤ 109 - L1 := by omega
  have hbpar : (-149 + (E : Int) - b) % 2 = 0 := by omega
  have hb1 : 50 - L ≤ b ∧ b ≤ 51 - L := by omega
  clear ha hb
  have hroot1 : IsRoot (2 ^ a * M1) (Ieee.Datum.rootFrom (M1 <<< a) ((M1 <<< a).log2 / 2 + 1) 0) := by
    have := isqrt_model (M1 <<< a)
    rw [show 2 ^ a * M1 = M1 <<< a by rw [Nat.shiftLeft_eq, Nat.mul_comm]]; exact this
  have hroot2 : IsRoot (2 ^ b * M) (Ieee.Datum.rootFrom (M <<< b) ((M <<< b).log2 / 2 + 1) 0) := by
    have := isqrt_model (M <<< b)
    rw [show 2 ^ b * M = M <<< b by rw [Nat.shiftLeft_eq, Nat.mul_comm]]; exact this
  have hneq : ∀ (m j r : Nat), (r * r != m <<< j) = decide (r * r ≠ 2 ^ j * m) := by
    intro m j r
    rw [Nat.shiftLeft_eq, Nat.mul_comm m]
    rw [Bool.eq_iff_iff]; simp
  rw [hneq] at h2 ⊢
  generalize Ieee.Datum.rootFrom (M1 <<< a) ((M1 <<< a).log2 / 2 + 1) 0 = w at hroot1 h2
  generalize Ieee.Datum.rootFrom (M <<< b) ((M <<< b).log2 / 2 + 1) 0 = w2 at hroot2 ⊢
  refine ⟨_, rfl, ?_⟩
  -- the greater number is the smaller one, an even number of places up
  obtain ⟨c, hc⟩ : ∃ c : Nat, a + (E + 925) = b + E1 + 2 * c := ⟨(a + (E + 925) - (b + E1)) / 2, by omega⟩
  have hn : 2 ^ a * M1 = 2 ^ (2 * c) * (2 ^ b * M) := by
    have e1 : 2 ^ E1 * (2 ^ a * M1) = 2 ^ E1 * (2 ^ (2 * c) * (2 ^ b * M)) := by
      have l : 2 ^ E1 * (2 ^ a * M1) = 2 ^ (a + (E + 925)) * M := by
        rw [Nat.mul_left_comm, Nat.mul_comm (2 ^ E1) M1, ← hmp, Nat.pow_add 2 a, Nat.mul_comm M (2 ^ (E + 925)), Nat.mul_assoc]
      have r : 2 ^ E1 * (2 ^ (2 * c) * (2 ^ b * M)) = 2 ^ (b + E1 + 2 * c) * M := by
        rw [Nat.pow_add, Nat.pow_add]; ac_rfl
      rw [l, r, hc]
    exact Nat.eq_of_mul_eq_mul_left (Nat.two_pow_pos _) e1
  have hn108 : 2 ^ 108 ≤ 2 ^ a * M1 := by
    have e1 : 2 ^ a * 2 ^ L1 ≤ 2 ^ a * M1 := Nat.mul_le_mul_left _ hM1lo
    rw [← Nat.pow_add] at e1
    exact Nat.le_trans (Nat.pow_le_pow_right (by decide) (by omega)) e1
  have hn110 : 2 ^ a * M1 < 2 ^ 110 := by
    have e1 : 2 ^ a * M1 < 2 ^ a * 2 ^ (L1 + 1) := Nat.mul_lt_mul_of_pos_left hM1hi (Nat.two_pow_pos _)
    rw [← Nat.pow_add] at e1
    exact Nat.lt_of_lt_of_le e1 (Nat.pow_le_pow_right (by decide) (by omega))
  have hw1 : 18014398509481984 ≤ w := by
    rcases Nat.lt_or_ge w 18014398509481984 with h | h
    · exfalso
      have e1 : (w + 1) * (w + 1) ≤ 18014398509481984 * 18014398509481984 := Nat.mul_le_mul h h
      have := hroot1.2
      simp only [Nat.reducePow] at hn108
      omega
    · exact h
  have hw2 : w < 36028797018963968 := by
    rcases Nat.lt_or_ge w 36028797018963968 with h | h
    · exact h
    · exfalso
      have e1 : 36028797018963968 * 36028797018963968 ≤ w * w := Nat.mul_le_mul h h
      have := hroot1.1
      simp only [Nat.reducePow] at hn110
      omega
  have hw2ge : 2 ^ (FloatKind.f32.format.fractionBits + 1) ≤ w2 := by
    rw [show FloatKind.f32.format.fractionBits = 23 from rfl]
    rcases Nat.lt_or_ge w2 (2 ^ (23 + 1)) with h | h
    · exfalso
      have e1 : (w2 + 1) * (w2 + 1) ≤ 2 ^ (23 + 1) * 2 ^ (23 + 1) := Nat.mul_le_mul h h
      have e2 := hroot2.2
      have e3 : 2 ^ b * 2 ^ L ≤ 2 ^ b * M := Nat.mul_le_mul_left _ (by rw [← hLM]; exact Nat.log2_self_le (by omega))
      rw [← Nat.pow_add] at e1 e3
      have e4 : (2 : Nat) ^ (23 + 1 + (23 + 1)) ≤ 2 ^ (b + L) := Nat.pow_le_pow_right (by decide) (by omega)
      omega
    · exact h
  have hnr := near_root FloatKind.f32.format false (2 ^ b * M) c w2 w ((-1074 + (E1 : Int) - a) / 2 - 1) hroot2 (by rw [← hn]; exact hroot1) hw2ge
  rw [← hn] at hnr
  have hpl : (-1074 + (E1 : Int) - a) / 2 - 1 + (c : Int) = (-149 + (E : Int) - b) / 2 - 1 := by
    clear hnr h2 h3; omega
  rw [hpl] at hnr
  -- what the float64 holds
  obtain ⟨T, hT⟩ : ∃ T, 2 * w + (decide (w * w ≠ 2 ^ a * M1)).toNat = T := ⟨_, rfl⟩
  have hσ := Bool.toNat_le (decide (w * w ≠ 2 ^ a * M1))
  have hfar : ¬ (2147483648 ≤ T % 4294967296 + 4 ∧ T % 4294967296 ≤ 2147483648 + 4) := by
    rw [← hT]
    have hbc : 62 ≤ 2 * c + b := by
      rcases Nat.lt_or_ge (2 * c + b) 62 with h | h
      · exfalso
        have e1 : 2 ^ (2 * c) * (2 ^ b * M) < 2 ^ 62 * 16777216 := by
          rw [← Nat.mul_assoc, ← Nat.pow_add]
          exact Nat.mul_lt_mul_of_le_of_lt (Nat.pow_le_pow_right (by decide) (by omega)) (by omega) (by decide)
        rw [← hn] at e1
        simp only [Nat.reducePow] at hn108 e1
        omega
      · exact h
    refine far_mid (2 ^ a * M1) w _ (2 ^ (2 * c + b - 62) * M) ?_ hroot1 hw2 hσ
    rw [hn, ← Nat.mul_assoc, ← Nat.pow_add, show (4611686018427387904 : Nat) = 2 ^ 62 by decide, ← Nat.mul_assoc, ← Nat.pow_add]
    have e : 62 + (2 * c + b - 62) = 2 * c + b := by omega
    rw [e]
  rw [hT] at h2 hnr
  have hT1 : 36028797018963968 ≤ T := by omega
  have hT2 : T < 72057594037927936 := by omega
  obtain ⟨g, hg⟩ : ∃ g : Int, (-1074 + (E1 : Int) - a) / 2 - 1 = g := ⟨_, rfl⟩
  rw [hg] at h2 hnr
  have hgl : -140 ≤ g := by clear h2 hnr h3; omega
  have hgh : g ≤ 30 := by clear h2 hnr h3; omega
  obtain ⟨r2, K, L2, hr2, hK, hL2, hw64, hmag2⟩ := near64_T T g hT1 hT2 (by omega) (by omega)
  obtain ⟨hdb, r3, hr3, hw32⟩ := near32_T T K g hT1 hT2 (by omega) (by omega) hfar hK
  have hd2 : d2 = FloatKind.f64.format.word false r2 := by
    rcases h2 with h2 | ⟨h2, _⟩
    · cases h2; exact hw64
    · cases h2
  have hdn : floatToFloatBits .f64 d2 .f32 = some (FloatKind.f32.format.nearest false T g) := by
    rw [hd2]
    have hp := mag_parts FloatKind.f64.format r2
    have he : FloatKind.f32.encode (.number false (sgf FloatKind.f64.format r2) (FloatKind.f64.format.leastPlace + exf FloatKind.f64.format r2)) = FloatKind.f32.format.nearest false T g := by
      show FloatKind.f32.format.nearest false _ _ = _
      have b1 := nearest_scale FloatKind.f32.format false (sgf FloatKind.f64.format r2) (exf FloatKind.f64.format r2) (FloatKind.f64.format.leastPlace + exf FloatKind.f64.format r2)
      have b2 := nearest_scale FloatKind.f32.format false K L2 (g + 3)
      have hpl2 : FloatKind.f64.format.leastPlace + (exf FloatKind.f64.format r2 : Int) - (exf FloatKind.f64.format r2 : Int) = g + 3 - (L2 : Int) := by rw [f64_lp]; omega
      rw [← hp, hmag2, hpl2] at b1
      rw [← b1, b2, hdb]
    unfold floatToFloatBits
    rw [if_neg (by decide), decode_word false hr2]
    simp only [he]
    rw [hw32, decode_word false hr3]
    rfl
  have hr : r = FloatKind.f32.format.nearest false T g := by
    rcases h3 with h3 | ⟨h3, _⟩
    · rw [hdn] at h3; cases h3; rfl
    · rw [hdn] at h3; cases h3
  subst hr
  rw [hw32, outB_word (Nat.le_of_lt hr3), ← hw32, hnr]
  rfl
end Go.Proofs.Ytapfapngcncaeaa.Fl
