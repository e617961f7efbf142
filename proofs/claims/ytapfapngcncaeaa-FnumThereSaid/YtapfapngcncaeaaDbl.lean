/- A float32 by way of float64: what fnum's unary operators answer, as plain roundings. -/
import Derived.Test.YtapfapngcncaeaaFl8
import Derived.Test.YtapfapngcncaeaaUn0
namespace Go.Proofs.Ytapfapngcncaeaa.Ie
open Ieee

theorem rep (f : Format) (hf : 2 ≤ f.exponentBits) (m t : Nat) (hm : m < 2 ^ (f.fractionBits + 1)) (ht : t + 3 ≤ 2 ^ f.exponentBits) : ∃ r, r < f.infRung ∧ mag f r = m * 2 ^ t := by
  have hb := binade_pos f
  have hbd : f.binade = 2 ^ f.fractionBits := rfl
  have hinf : f.infRung = (2 ^ f.exponentBits - 1) * f.binade := rfl
  have h4 : 4 ≤ 2 ^ f.exponentBits := Nat.pow_le_pow_right (n := 2) (by decide) hf
  by_cases h0 : m = 0
  · subst h0
    refine ⟨0, ?_, ?_⟩
    · rw [hinf]; exact Nat.mul_pos (by omega) hb
    · unfold mag; rw [if_pos hb]; simp
  · have hlog : m.log2 ≤ f.fractionBits := by
      have := (Nat.log2_lt (n := m) (k := f.fractionBits + 1) h0).2 hm
      omega
    have hlo := Nat.log2_self_le h0
    have hhi := log2_lt' m
    obtain ⟨L, hL⟩ : ∃ L, m.log2 = L := ⟨_, rfl⟩
    rw [hL] at hlog hlo hhi
    rcases Nat.lt_or_ge t (f.fractionBits - L) with h | h
    · -- a subnormal one
      have h1 : m * 2 ^ t < 2 ^ f.fractionBits := by
        have h2 : m * 2 ^ t < 2 ^ (L + 1) * 2 ^ t := Nat.mul_lt_mul_of_pos_right hhi (Nat.two_pow_pos _)
        rw [← Nat.pow_add] at h2
        exact Nat.lt_of_lt_of_le h2 (Nat.pow_le_pow_right (by decide) (by omega))
      refine ⟨m * 2 ^ t, ?_, ?_⟩
      · have := inf_ge f (by omega)
        omega
      · unfold mag; rw [if_pos (by omega)]
    · obtain ⟨q, hq⟩ : ∃ q, t = (f.fractionBits - L) + q := ⟨t - (f.fractionBits - L), by omega⟩
      have hM1 : f.binade ≤ m * 2 ^ (f.fractionBits - L) := by
        have h2 : 2 ^ L * 2 ^ (f.fractionBits - L) ≤ m * 2 ^ (f.fractionBits - L) := Nat.mul_le_mul_right _ hlo
        rw [← Nat.pow_add, show L + (f.fractionBits - L) = f.fractionBits by omega] at h2
        exact h2
      have hM2 : m * 2 ^ (f.fractionBits - L) < 2 * f.binade := by
        have h2 : m * 2 ^ (f.fractionBits - L) < 2 ^ (L + 1) * 2 ^ (f.fractionBits - L) := Nat.mul_lt_mul_of_pos_right hhi (Nat.two_pow_pos _)
        rw [← Nat.pow_add, show L + 1 + (f.fractionBits - L) = f.fractionBits + 1 by omega, Nat.pow_succ] at h2
        omega
      have e : m * 2 ^ t = m * 2 ^ (f.fractionBits - L) * 2 ^ q := by rw [hq, Nat.pow_add, Nat.mul_assoc]
      rw [e]
      generalize m * 2 ^ (f.fractionBits - L) = M at hM1 hM2 ⊢
      refine ⟨f.binade * (q + 1) + (M - f.binade), ?_, ?_⟩
      · rw [hinf]
        have h5 : (q + 2) * f.binade ≤ (2 ^ f.exponentBits - 1) * f.binade := Nat.mul_le_mul_right _ (by omega)
        have h6 : (q + 2) * f.binade = f.binade * (q + 1) + f.binade := by rw [Nat.mul_comm f.binade, ← Nat.succ_mul]
        omega
      · have h7 : f.binade ≤ f.binade * (q + 1) + (M - f.binade) := Nat.le_trans (Nat.le_mul_of_pos_right _ (by omega)) (Nat.le_add_right _ _)
        unfold mag
        rw [if_neg (by omega), Nat.mul_add_mod, Nat.mod_eq_of_lt (by omega), Nat.mul_add_div hb, Nat.div_eq_of_lt (show M - f.binade < f.binade by omega), Nat.add_zero, show q + 1 - 1 = q from rfl, show f.binade + (M - f.binade) = M by omega]

theorem nearest_num (f : Format) (s : Bool) (m : Nat) (i : Int) : ∃ r, r ≤ f.infRung ∧ f.nearest s m i = f.word s r := by
  by_cases h : m = 0
  · subst h
    exact ⟨0, Nat.zero_le _, by simp [Format.nearest]⟩
  · exact ⟨_, Nat.min_le_right _ _, nearest_eq f s m i h⟩

theorem word_lt_sign (f : Format) {r : Nat} (h : r ≤ f.infRung) : r < f.signWeight := Nat.lt_of_le_of_lt h f.infRung_lt
end Go.Proofs.Ytapfapngcncaeaa.Ie
namespace Go.Proofs.Ytapfapngcncaeaa.Fl
open Go.Proofs.Ytapfapngcncaeaa.Ie

theorem f32_inf : FloatKind.f32.format.infRung = 2139095040 := by decide
theorem f64_inf : FloatKind.f64.format.infRung = 9218868437227405312 := by decide
theorem f32_lp : FloatKind.f32.format.leastPlace = -149 := by decide
theorem f64_lp : FloatKind.f64.format.leastPlace = -1074 := by decide

theorem fin_num {k : FloatKind} {s : Bool} {r : Nat} (h : r ≤ k.format.infRung) : isNum k (k.format.word s r) = true := by
  rw [isNum_iff]
  unfold Nn
  rw [word_rung k.format s (word_lt_sign _ h)]
  omega
theorem outB_word {k : FloatKind} {s : Bool} {r : Nat} (h : r ≤ k.format.infRung) : outB k (k.format.word s r) = (k.format.word s r : Int) := by
  unfold outB; rw [if_pos (fin_num h)]
theorem decode_word {k : FloatKind} (s : Bool) {r : Nat} (h : r < k.format.infRung) : k.decode (k.format.word s r) = .number s (sgf k.format r) (k.format.leastPlace + exf k.format r) := by
  unfold FloatKind.decode
  rw [read_word_eq, unword_parts _ _ _ h]
where
  read_word_eq : k.format.read (k.format.word s r) = unword k.format s r := by
    rw [read_eq, word_sgn k.format s (word_lt_sign _ (Nat.le_of_lt h)), word_rung k.format s (word_lt_sign _ (Nat.le_of_lt h))]
theorem decode_fin {k : FloatKind} (x : Nat) (h : rung k.format x < k.format.infRung) : k.decode x = .number (sgn k.format x) (sgf k.format (rung k.format x)) (k.format.leastPlace + exf k.format (rung k.format x)) := by
  unfold FloatKind.decode
  rw [read_eq, unword_parts _ _ _ h]

/-- A float32 that is a number, as a float64: the same number. -/
theorem up_fin (x : Nat) (h : rung FloatKind.f32.format x < FloatKind.f32.format.infRung) :
    ∃ r, r < FloatKind.f64.format.infRung ∧ floatToFloatBits .f32 x .f64 = some (FloatKind.f64.format.word (sgn FloatKind.f32.format x) r) ∧
      mag FloatKind.f64.format r = sgf FloatKind.f32.format (rung FloatKind.f32.format x) * 2 ^ (exf FloatKind.f32.format (rung FloatKind.f32.format x) + 925) := by
  have hM := sgf_lt FloatKind.f32.format (rung FloatKind.f32.format x)
  have hE : exf FloatKind.f32.format (rung FloatKind.f32.format x) ≤ 300 := by
    unfold exf
    rw [show FloatKind.f32.format.binade = 8388608 by decide]
    rw [f32_inf] at h
    split <;> omega
  rw [show FloatKind.f32.format.binade = 8388608 by decide] at hM
  have hd := decode_fin (k := .f32) x h
  generalize sgf FloatKind.f32.format (rung FloatKind.f32.format x) = M at hM hd ⊢
  generalize exf FloatKind.f32.format (rung FloatKind.f32.format x) = E at hE hd ⊢
  generalize sgn FloatKind.f32.format x = s at hd ⊢
  obtain ⟨r, hr, hm⟩ := rep FloatKind.f64.format (by decide) M (E + 925) (by rw [show (2 : Nat) ^ (FloatKind.f64.format.fractionBits + 1) = 9007199254740992 by decide]; omega) (by rw [show (2 : Nat) ^ FloatKind.f64.format.exponentBits = 2048 by decide]; omega)
  refine ⟨r, hr, ?_, hm⟩
  have hn : FloatKind.f64.encode (.number s M (FloatKind.f32.format.leastPlace + E)) = FloatKind.f64.format.word s r := by
    show FloatKind.f64.format.nearest s M _ = _
    have hpl : FloatKind.f32.format.leastPlace + (E : Int) = FloatKind.f64.format.leastPlace + ((E + 925 : Nat) : Int) := by rw [f32_lp, f64_lp]; omega
    rw [hpl]
    exact nearest_exact FloatKind.f64.format s r M (E + 925) hr hm.symm
  unfold floatToFloatBits
  rw [if_neg (by decide), hd]
  simp only [hn]
  rw [decode_word s hr]
  rfl

/-- A whole number of 24 digits, moved up: as a float64, and as a float32 again. -/
theorem down_whole (s : Bool) (K m t r j : Nat) (hj : j = 1074) (hK : K = m * 2 ^ t) (hm : m < 16777216) (ht : t ≤ 104) (hr : r < FloatKind.f64.format.infRung) (hmag : mag FloatKind.f64.format r = K * 2 ^ j) :
    floatToFloatBits .f64 (FloatKind.f64.format.word s r) .f32 = some (FloatKind.f32.format.nearest s K 0) := by
  obtain ⟨g, hg⟩ : ∃ g, g = t + 149 := ⟨_, rfl⟩
  obtain ⟨r3, hr3, hm3⟩ := rep FloatKind.f32.format (by decide) m g (by rw [show (2 : Nat) ^ (FloatKind.f32.format.fractionBits + 1) = 16777216 by decide]; omega) (by rw [show (2 : Nat) ^ FloatKind.f32.format.exponentBits = 256 by decide]; omega)
  have hx := nearest_exact FloatKind.f32.format s r3 m g hr3 hm3.symm
  have hsc := nearest_scale FloatKind.f32.format s m t (t : Int)
  rw [← hK, show (t : Int) - t = 0 by omega] at hsc
  have hpl : FloatKind.f32.format.leastPlace + (g : Int) = (t : Int) := by rw [f32_lp]; omega
  have hw : FloatKind.f32.format.nearest s K 0 = FloatKind.f32.format.word s r3 := by
    rw [hsc, ← hpl]; exact hx
  have hp := mag_parts FloatKind.f64.format r
  have he : FloatKind.f32.encode (.number s (sgf FloatKind.f64.format r) (FloatKind.f64.format.leastPlace + exf FloatKind.f64.format r)) = FloatKind.f32.format.nearest s K 0 := by
    show FloatKind.f32.format.nearest s _ _ = _
    have h1 := nearest_scale FloatKind.f32.format s (sgf FloatKind.f64.format r) (exf FloatKind.f64.format r) (FloatKind.f64.format.leastPlace + exf FloatKind.f64.format r)
    have h2 := nearest_scale FloatKind.f32.format s K j 0
    have hpl2 : FloatKind.f64.format.leastPlace + (exf FloatKind.f64.format r : Int) - (exf FloatKind.f64.format r : Int) = 0 - (j : Int) := by rw [f64_lp, hj]; omega
    rw [← hp, hmag, hpl2] at h1
    rw [← h1, h2]
  unfold floatToFloatBits
  rw [if_neg (by decide), decode_word s hr]
  simp only [he]
  rw [hw, decode_word s hr3]
  rfl

theorem integral_fin (way : Ieee.Toward) (s : Bool) (M : Nat) (i : Int) : (Ieee.Datum.number s M i).integral way = .number s (wholeK way s M i) 0 := rfl

/-- A float32 made whole by way of float64. -/
theorem un32_round (k : Int) (hk : 2 ≤ k) (hk5 : k ≤ 5) (x : Nat) (v : Int) (h : Un32 k x v) (hf : rung FloatKind.f32.format x < FloatKind.f32.format.infRung) :
    v = (FloatKind.f32.format.nearest (sgn FloatKind.f32.format x) (wholeK (way k) (sgn FloatKind.f32.format x) (sgf FloatKind.f32.format (rung FloatKind.f32.format x)) (-149 + (exf FloatKind.f32.format (rung FloatKind.f32.format x) : Int))) 0 : Int) := by
  obtain ⟨d1, d2, r, h1, h2, h3, rfl⟩ := h
  rw [if_neg (by omega)] at h2
  obtain ⟨r1, hr1, hup, hmag⟩ := up_fin x hf
  have hM := sgf_lt FloatKind.f32.format (rung FloatKind.f32.format x)
  have hE : exf FloatKind.f32.format (rung FloatKind.f32.format x) ≤ 253 := by
    unfold exf
    rw [show FloatKind.f32.format.binade = 8388608 by decide]
    rw [f32_inf] at hf
    split <;> omega
  rw [show FloatKind.f32.format.binade = 8388608 by decide] at hM
  generalize sgf FloatKind.f32.format (rung FloatKind.f32.format x) = M at hM hmag ⊢
  generalize exf FloatKind.f32.format (rung FloatKind.f32.format x) = E at hE hmag ⊢
  generalize sgn FloatKind.f32.format x = s at hup ⊢
  have hd1 : d1 = FloatKind.f64.format.word s r1 := by
    rcases h1 with h1 | ⟨h1, _⟩
    · rw [hup] at h1; cases h1; rfl
    · rw [hup] at h1; cases h1
  subst hd1
  have hn1 : ¬ Nn .f64 (FloatKind.f64.format.word s r1) := (isNum_iff _ _).1 (fin_num (Nat.le_of_lt hr1))
  have hd2 : d2 = FloatKind.f64.encode (.number s (wholeK (way k) s M (-149 + (E : Int))) 0) := by
    rcases h2 with ⟨h2, _⟩ | ⟨_, h2⟩
    · exact absurd h2 hn1
    · rw [h2, decode_word s hr1, integral_fin]
      have e : wholeK (way k) s (sgf FloatKind.f64.format r1) (FloatKind.f64.format.leastPlace + exf FloatKind.f64.format r1) = wholeK (way k) s M (-149 + (E : Int)) := by
        have a1 := wholeK_scale (way k) s (sgf FloatKind.f64.format r1) (exf FloatKind.f64.format r1) (FloatKind.f64.format.leastPlace + exf FloatKind.f64.format r1)
        have a2 := wholeK_scale (way k) s M (E + 925) (-149 + (E : Int))
        have hpl : FloatKind.f64.format.leastPlace + (exf FloatKind.f64.format r1 : Int) - (exf FloatKind.f64.format r1 : Int) = -149 + (E : Int) - ((E + 925 : Nat) : Int) := by rw [f64_lp]; omega
        rw [← mag_parts, hmag, hpl] at a1
        rw [← a1, a2]
      rw [e]
  have hKm : ∃ m t, wholeK (way k) s M (-149 + (E : Int)) = m * 2 ^ t ∧ m < 16777216 ∧ t ≤ 104 := by
    by_cases c : 0 ≤ -149 + (E : Int)
    · exact ⟨M, (-149 + (E : Int)).toNat, wholeK_pos _ _ _ _ c, by omega, by omega⟩
    · refine ⟨_, 0, (Nat.mul_one _).symm, ?_, by decide⟩
      obtain ⟨d, hd⟩ : ∃ d : Nat, -(-149 + (E : Int)) = d + 1 := ⟨(-(-149 + (E : Int)) - 1).toNat, by omega⟩
      unfold wholeK
      rw [cut_small, show (-149 + (E : Int)).toNat = 0 by omega, Nat.shiftLeft_zero, show (-(-149 + (E : Int))).toNat = d + 1 by omega]
      have hq : M / 2 ^ (d + 1) ≤ M / 2 := by
        rw [Nat.pow_succ', ← Nat.div_div_eq_div_mul]; exact Nat.div_le_self _ _
      have hb : ∀ b : Bool, M / 2 ^ (d + 1) + b.toNat < 16777216 := by
        intro b
        have := Bool.toNat_le b
        omega
      cases way k
      · show reven M (2 ^ (d + 1)) < _
        unfold reven
        split <;> omega
      · exact hb _
      · exact hb _
      · exact Nat.lt_of_le_of_lt hq (by omega)
  obtain ⟨m, t, hK, hm, ht⟩ := hKm
  obtain ⟨j, hj⟩ : ∃ j : Nat, j = 1074 := ⟨_, rfl⟩
  obtain ⟨r2, hr2, hmag2⟩ := rep FloatKind.f64.format (by decide) m (t + j) (by rw [show (2 : Nat) ^ (FloatKind.f64.format.fractionBits + 1) = 9007199254740992 by decide]; omega) (by rw [show (2 : Nat) ^ FloatKind.f64.format.exponentBits = 2048 by decide]; omega)
  have hmag3 : mag FloatKind.f64.format r2 = wholeK (way k) s M (-149 + (E : Int)) * 2 ^ j := by rw [hmag2, hK, Nat.pow_add, Nat.mul_assoc]
  generalize wholeK (way k) s M (-149 + (E : Int)) = K at hK hd2 hmag3 ⊢
  have hd3 : d2 = FloatKind.f64.format.word s r2 := by
    rw [hd2]
    show FloatKind.f64.format.nearest s K 0 = _
    have a3 := nearest_exact FloatKind.f64.format s r2 K j hr2 hmag3.symm
    rw [f64_lp, show (-1074 + (j : Int)) = 0 by omega] at a3
    exact a3
  have hdn := down_whole s K m t r2 j hj hK hm ht hr2 hmag3
  have hr3 : r = FloatKind.f32.format.nearest s K 0 := by
    rcases h3 with h3 | ⟨h3, _⟩
    · rw [hd3, hdn] at h3; cases h3; rfl
    · rw [hd3, hdn] at h3; cases h3
  subst hr3
  obtain ⟨q, hq, hw⟩ := nearest_num FloatKind.f32.format s K 0
  rw [hw, outB_word hq]

/-- A float64 made whole. -/
theorem un64_round (k : Int) (hk : 2 ≤ k) (hk5 : k ≤ 5) (x : Nat) (v : Int) (h : Un64 k x v) (hf : rung FloatKind.f64.format x < FloatKind.f64.format.infRung) :
    v = (FloatKind.f64.format.nearest (sgn FloatKind.f64.format x) (wholeK (way k) (sgn FloatKind.f64.format x) (sgf FloatKind.f64.format (rung FloatKind.f64.format x)) (-1074 + (exf FloatKind.f64.format (rung FloatKind.f64.format x) : Int))) 0 : Int) := by
  obtain ⟨r, h2, rfl⟩ := h
  rw [if_neg (by omega)] at h2
  have hn1 : ¬ Nn .f64 x := by unfold Nn; omega
  rcases h2 with ⟨h2, _⟩ | ⟨_, rfl⟩
  · exact absurd h2 hn1
  · rw [decode_fin x hf, integral_fin, f64_lp]
    show outB .f64 (FloatKind.f64.format.nearest _ _ 0) = _
    obtain ⟨q, hq, hw⟩ := nearest_num FloatKind.f64.format (sgn FloatKind.f64.format x) (wholeK (way k) (sgn FloatKind.f64.format x) (sgf FloatKind.f64.format (rung FloatKind.f64.format x)) (-1074 + (exf FloatKind.f64.format (rung FloatKind.f64.format x) : Int))) 0
    rw [hw, outB_word hq]
end Go.Proofs.Ytapfapngcncaeaa.Fl
