/- The reference's Round is the model's rounding. -/
import Derived.Test.YtapfapngcncaeaaQFx4
import Derived.Test.YtapfapngcncaeaaWide
import Derived.Test.YtapfapngcncaeaaNear2
namespace Go.Proofs.Ytapfapngcncaeaa.QF
open Go.RowKit Go.Proofs.YtapfapngcncaeaaW.PrintWords Go.Proofs.YtapfapngcncaeaaW.PrintLast Go.Proofs.YtapfapngcncaeaaW.PrintMore Go.Proofs.Ytapfapngcncaeaa.Ie Go.Proofs.Ytapfapngcncaeaa.Rf

theorem bias32 : ratchetref04_Format_bias.f 23 8 = some 150 := by kernel_rfl
theorem sign32 : ratchetref04_Format_sign.f 23 8 = some 2147483648 := by kernel_rfl
theorem inf32 : ratchetref04_Format_inf.f 23 8 = some 2139095040 := by kernel_rfl
theorem word32 (neg : Bool) (r : Nat) : ((FloatKind.f32.format.word neg r : Nat) : Int) = (if neg = true then 2147483648 else 0) + r := by
  unfold Ieee.Format.word
  rw [show FloatKind.f32.format.signWeight = 2147483648 by decide]
  cases neg <;> simp

/-- Behind the rounding: the word is put together. -/
theorem j3_32 (k : Nat) (neg : Bool) (K : Nat) (L : Int) (hi : Int) (more : Bool) (hK : K ≤ 16777216) (hL : -149 ≤ L) (hL2 : L ≤ 1000000) (hlow : K < 8388608 → L = -149) :
    ratchetref04_Format_Round.j3 (k + 1 + 1) L (if neg = true then 2147483648 else 0) 23 8 hi (K : Int) more = some ((FloatKind.f32.format.word neg (min ((L - -149).toNat * 8388608 + K) 2139095040) : Nat) : Int) := by
  rw [ratchetref04_Format_Round.j3]
  rw [show IntKind.u64.wrap (wrap64 (23 + 1)) = 24 by kernel_rfl, if_pos (by decide)]
  have s1 : ∀ x : Int, shr .u64 x 24 = x / 16777216 := fun x => rfl
  have s2 : ∀ x : Int, shr .u64 x 23 = x / 8388608 := fun x => rfl
  have t1 : shl .i64 1 8 = 256 := by decide
  have t2 : shl .u64 1 23 = 8388608 := by decide
  have t3 : ∀ x : Int, shl .u64 x 23 = IntKind.u64.wrap (x * 8388608) := fun x => rfl
  have w1 : IntKind.u64.wrap 23 = 23 := by decide
  have w2 : IntKind.u64.wrap 8 = 8 := by decide
  rw [s1, word32]
  have hn : ∃ g : Int, (if neg = true then (2147483648 : Int) else 0) = g ∧ (g = 0 ∨ g = 2147483648) := by cases neg <;> simp
  obtain ⟨g, hg, hg2⟩ := hn
  rw [hg]
  by_cases c1 : K = 16777216
  · have hLe : -149 ≤ L := hL
    rw [if_pos (by omega), show ((K : Int) / 2) = 8388608 by omega, show wrap64 (L + 1) = L + 1 by unfold wrap64; omega]
    rw [ratchetref04_Format_Round.j4, w1, w2, if_pos (by decide), s2, if_neg (by decide), bias32]
    simp only [Option.bind_some]
    rw [if_pos (by decide), t1, show wrap64 (256 - 1) = 255 by kernel_rfl, show wrap64 (L + 1 + 150) = L + 151 by unfold wrap64; omega, inf32, t2, t3]
    simp only [Option.bind_some]
    by_cases c2 : L + 151 ≥ 255
    · rw [if_pos c2, IntKind.wrap_u64, Nat.min_eq_right (by omega)]
      rcases hg2 with rfl | rfl <;> simp <;> rfl
    · rw [if_neg c2, Nat.min_eq_left (by omega)]
      simp only [IntKind.wrap_u64, Option.some.injEq]
      omega
  · rw [if_neg (by omega), ratchetref04_Format_Round.j4, w1, w2, if_pos (by decide), s2]
    by_cases c3 : K < 8388608
    · have hL' := hlow c3
      subst hL'
      rw [if_pos (by omega), IntKind.wrap_u64, Nat.min_eq_left (by omega)]
      simp only [Option.some.injEq]
      omega
    · rw [if_neg (by omega), bias32]
      simp only [Option.bind_some]
      rw [if_pos (by decide), t1, show wrap64 (256 - 1) = 255 by kernel_rfl, show wrap64 (L + 150) = L + 150 by unfold wrap64; omega, inf32, t2, t3]
      simp only [Option.bind_some]
      by_cases c2 : L + 150 ≥ 255
      · rw [if_pos c2, IntKind.wrap_u64, Nat.min_eq_right (by omega)]
        rcases hg2 with rfl | rfl <;> simp <;> rfl
      · rw [if_neg c2, Nat.min_eq_left (by omega)]
        simp only [IntKind.wrap_u64, Option.some.injEq]
        omega

theorem round_pos32 (k : Nat) (hk : 400 ≤ k) (neg : Bool) (w : Nat) (hw : 0 < w) (hw2 : w < 340282366920938463463374607431768211456) (s : Bool) (e : Int) (he : -10000 ≤ e) (he2 : e ≤ 10000)
    (hs : s = true → 1 ≤ max ((w.log2 : Int) - 23) (-149 - e)) :
    ratchetref04_Format_Round.f (k + 6) 23 8 neg (hiW w) (loW w) s e = some ((FloatKind.f32.format.nearest neg (2 * w + s.toNat) (e - 1) : Nat) : Int) := by
  have hlen : len w = w.log2 + 1 := by unfold len; rw [if_neg (by omega)]
  have hl128 := len_le w 128 hw2
  have e0 : ratchetref04_Format_Round.f (k + 6) 23 8 neg (hiW w) (loW w) s e = ratchetref04_Format_Round.j0 (k + 5 + 1) e (if neg = true then 2147483648 else 0) 23 8 (hiW w) (loW w) s := by
    unfold ratchetref04_Format_Round.f
    rw [sign32]
    cases neg <;> rfl
  have hn := nearest_sticky FloatKind.f32.format neg w hw s e hs
  rw [show FloatKind.f32.format.fractionBits = 23 from rfl, show FloatKind.f32.format.leastPlace = -149 by decide, show FloatKind.f32.format.binade = 8388608 by decide, show FloatKind.f32.format.infRung = 2139095040 by decide] at hn
  rw [e0, hn, ratchetref04_Format_Round.j0, long_f _ w (by omega) s hw2, bias32]
  simp only [Option.bind_some]
  have hD : mx (wrap64 (wrap64 ((len w : Int) - 23) - 1)) (wrap64 (wrap64 (1 - 150) - e)) = max ((w.log2 : Int) - 23) (-149 - e) := by
    rw [show wrap64 (1 - 150) = -149 by kernel_rfl, show wrap64 ((len w : Int) - 23) = (len w : Int) - 23 by unfold wrap64; omega, show wrap64 ((len w : Int) - 23 - 1) = (w.log2 : Int) - 23 by unfold wrap64; omega, show wrap64 (-149 - e) = -149 - e by unfold wrap64; omega]
    unfold mx; split <;> omega
  rw [hD]
  have k1 := kept_le w 23 (max ((w.log2 : Int) - 23) (-149 - e)) (by omega) s
  have k2 := kept_ge w 23 ((w.log2 : Int) - 23) hw rfl s
  have kl : (if max ((w.log2 : Int) - 23) (-149 - e) ≤ 0 then w * 2 ^ (-(max ((w.log2 : Int) - 23) (-149 - e))).toNat else keptUp w (max ((w.log2 : Int) - 23) (-149 - e)).toNat s) < 8388608 → e + max ((w.log2 : Int) - 23) (-149 - e) = -149 := by
    intro h
    rcases Int.le_total ((w.log2 : Int) - 23) (-149 - e) with c | c
    · rw [Int.max_eq_right c]; omega
    · rw [Int.max_eq_left c] at h
      exfalso
      exact absurd h (by rw [show (8388608 : Nat) = 2 ^ 23 by decide]; omega)
  have dlo : -149 ≤ e + max ((w.log2 : Int) - 23) (-149 - e) := by omega
  have dhi : max ((w.log2 : Int) - 23) (-149 - e) ≤ 20000 := by omega
  have dlow : -20000 ≤ max ((w.log2 : Int) - 23) (-149 - e) := by omega
  generalize max ((w.log2 : Int) - 23) (-149 - e) = D at hs k1 kl dlo dhi dlow ⊢
  clear hn hD k2 hl128 hlen e0
  rw [show (2 : Nat) ^ (23 + 1) = 16777216 by decide] at k1
  rw [right_f _ D w s (by omega) (by omega) hw2]
  simp only [Option.bind_some]
  have z2 : ∀ (kk : Nat) (m1 m2 : Int) (m3 : Bool), ratchetref04_Format_Round.j1 (kk + 1 + 1) e (if neg = true then 2147483648 else 0) D 23 8 (hiW w) (loW w) s m1 m2 m3 = ratchetref04_Format_Round.j2 (kk + 1) e (if neg = true then 2147483648 else 0) D false 23 8 (hiW w) (loW w) s m1 m2 m3 := by
    intro kk m1 m2 m3
    rw [ratchetref04_Format_Round.j1]
    by_cases c : hiW w = 0
    · rw [if_pos c, show ((loW w == 0) : Bool) = false by simp only [beq_eq_false_iff_ne]; unfold hiW at c; unfold loW; omega]
    · rw [if_neg c]
  by_cases hD0 : D ≤ 0
  · rw [if_pos hD0] at k1 kl ⊢
    rw [if_pos hD0, show wrap64 (-D) = -D by unfold wrap64; omega]
    have hdk : -D < (k : Int) + 3 := by
      have hp : 2 ^ (-D).toNat ≤ w * 2 ^ (-D).toNat := Nat.le_mul_of_pos_left _ hw
      have h3 : (2 : Nat) ^ (-D).toNat ≤ 2 ^ 24 := Nat.le_trans hp k1
      have := (Nat.pow_le_pow_iff_right (a := 2) (by decide)).1 h3
      omega
    rw [left_f _ (-D) w s (by omega) (by omega) (by omega) hw2]
    simp only [Option.bind_some]
    rw [Nat.mod_eq_of_lt (a := w * 2 ^ (-D).toNat) (by omega), hiW_zero (w := w * 2 ^ (-D).toNat) (by omega), loW_small (w := w * 2 ^ (-D).toNat) (by omega), z2, ratchetref04_Format_Round.j2]
    simp only [Bool.false_eq_true, if_false]
    rw [if_neg (by omega), show wrap64 (e + D) = e + D by unfold wrap64; omega]
    exact j3_32 _ neg _ _ _ _ k1 dlo (by omega) kl
  · rw [if_neg hD0] at k1 kl ⊢
    rw [if_neg hD0, z2, ratchetref04_Format_Round.j2]
    simp only [Bool.false_eq_true, if_false]
    rw [if_pos (by omega), show wrap64 (D - 1) = D - 1 by unfold wrap64; omega, show wrap64 (e + D) = e + D by unfold wrap64; omega, right_f _ (D - 1) w s (by omega) (by omega) hw2]
    simp only [Option.bind_some]
    have hdn : (D - 1).toNat = D.toNat - 1 := by omega
    rw [hdn]
    have a1 : ∀ x : Nat, bits .and .u64 (loW x) 1 = ((x % 2 : Nat) : Int) := by
      intro x
      rw [and1 _ (by unfold loW; omega) (by unfold loW; omega)]; unfold loW; omega
    rw [a1, a1]
    have hq : w / 2 ^ D.toNat ≤ 16777216 := by
      unfold keptUp at k1
      exact Nat.le_trans (Nat.le_add_right _ _) k1
    rw [loW_small (w := w / 2 ^ D.toNat) (by omega), IntKind.wrap_u64]
    unfold keptUp at k1 kl ⊢
    generalize w / 2 ^ D.toNat = Q at k1 kl hq ⊢
    rw [show ((Q : Int) + 1) % 18446744073709551616 = ((Q + 1 : Nat) : Int) by omega]
    have hb : w / 2 ^ (D.toNat - 1) % 2 = 0 ∨ w / 2 ^ (D.toNat - 1) % 2 = 1 := by omega
    rcases hb with hb | hb
    · rw [hb] at k1 kl ⊢
      simp only [Nat.zero_ne_one, false_and, if_false, Nat.add_zero] at k1 kl ⊢
      rw [if_neg (by decide)]
      exact j3_32 _ neg _ _ _ _ k1 dlo (by omega) kl
    · rw [hb] at k1 kl ⊢
      simp only [true_and] at k1 kl ⊢
      rw [if_pos (by decide)]
      by_cases c : s = true ∨ w % 2 ^ (D.toNat - 1) ≠ 0
      · have c' : (s || decide (w % 2 ^ (D.toNat - 1) ≠ 0)) = true := by simpa using c
        have c'' : s = true ∨ w % 2 ^ (D.toNat - 1) ≠ 0 ∨ Q % 2 = 1 := c.elim .inl (fun h => .inr (.inl h))
        rw [if_pos c''] at k1 kl ⊢
        rw [if_pos c']
        exact j3_32 _ neg _ _ _ _ k1 dlo (by omega) kl
      · have c' : ¬ ((s || decide (w % 2 ^ (D.toNat - 1) ≠ 0)) = true) := by simpa using c
        rw [if_neg c']
        by_cases d : Q % 2 = 1
        · have c'' : s = true ∨ w % 2 ^ (D.toNat - 1) ≠ 0 ∨ Q % 2 = 1 := .inr (.inr d)
          rw [if_pos c''] at k1 kl ⊢
          rw [d, if_pos (by decide)]
          exact j3_32 _ neg _ _ _ _ k1 dlo (by omega) kl
        · have c'' : ¬ (s = true ∨ w % 2 ^ (D.toNat - 1) ≠ 0 ∨ Q % 2 = 1) := by
            rintro (h | h | h)
            · exact c (.inl h)
            · exact c (.inr h)
            · exact d h
          rw [if_neg c''] at k1 kl ⊢
          rw [if_neg (by omega)]
          exact j3_32 _ neg _ _ _ _ k1 dlo (by omega) kl

theorem round_zero32 (k : Nat) (hk : 400 ≤ k) (neg : Bool) (s : Bool) (e : Int) (he : -10000 ≤ e) (he2 : e ≤ 10000) :
    ratchetref04_Format_Round.f (k + 6) 23 8 neg 0 0 s e = some ((FloatKind.f32.format.word neg 0 : Nat) : Int) := by
  have e0 : ratchetref04_Format_Round.f (k + 6) 23 8 neg 0 0 s e = ratchetref04_Format_Round.j0 (k + 5 + 1) e (if neg = true then 2147483648 else 0) 23 8 (hiW 0) (loW 0) s := by
    unfold ratchetref04_Format_Round.f
    rw [sign32]
    cases neg <;> rfl
  rw [e0, ratchetref04_Format_Round.j0, long_f _ 0 (by omega) s (by decide), bias32]
  simp only [Option.bind_some]
  have hD : mx (wrap64 (wrap64 ((len 0 : Int) - 23) - 1)) (wrap64 (wrap64 (1 - 150) - e)) = max (-24) (-149 - e) := by
    rw [show wrap64 (1 - 150) = -149 by kernel_rfl, show wrap64 (wrap64 ((len 0 : Int) - 23) - 1) = -24 by kernel_rfl, show wrap64 (-149 - e) = -149 - e by unfold wrap64; omega]
    unfold mx; split <;> omega
  rw [hD]
  have d1 : max (-24) (-149 - e) ≤ 20000 := by omega
  have d2 : -24 ≤ max (-24) (-149 - e) := by omega
  generalize max (-24) (-149 - e) = D at d1 d2 ⊢
  rw [right_f _ D 0 s (by omega) (by omega) (by decide)]
  simp only [Option.bind_some]
  have z : ∀ (kk : Nat) (m1 m2 : Int) (m3 : Bool), ratchetref04_Format_Round.j1 (kk + 1 + 1) e (if neg = true then 2147483648 else 0) D 23 8 (hiW 0) (loW 0) s m1 m2 m3 = some (if neg = true then 2147483648 else 0) := by
    intro kk m1 m2 m3
    rw [ratchetref04_Format_Round.j1, show hiW 0 = 0 by decide, show loW 0 = 0 by decide, if_pos rfl, ratchetref04_Format_Round.j2]
    rfl
  rw [word32]
  by_cases hD0 : D ≤ 0
  · rw [if_pos hD0, show wrap64 (-D) = -D by unfold wrap64; omega, left_f _ (-D) 0 s (by omega) (by omega) (by omega) (by decide)]
    simp only [Option.bind_some]
    rw [z]; simp
  · rw [if_neg hD0, z]; simp


theorem bias64 : ratchetref04_Format_bias.f 52 11 = some 1075 := by kernel_rfl
theorem sign64 : ratchetref04_Format_sign.f 52 11 = some 9223372036854775808 := by kernel_rfl
theorem inf64 : ratchetref04_Format_inf.f 52 11 = some 9218868437227405312 := by kernel_rfl
theorem word64 (neg : Bool) (r : Nat) : ((FloatKind.f64.format.word neg r : Nat) : Int) = (if neg = true then 9223372036854775808 else 0) + r := by
  unfold Ieee.Format.word
  rw [show FloatKind.f64.format.signWeight = 9223372036854775808 by decide]
  cases neg <;> simp

/-- Behind the rounding: the word is put together. -/
theorem j3_64 (k : Nat) (neg : Bool) (K : Nat) (L : Int) (hi : Int) (more : Bool) (hK : K ≤ 9007199254740992) (hL : -1074 ≤ L) (hL2 : L ≤ 1000000) (hlow : K < 4503599627370496 → L = -1074) :
    ratchetref04_Format_Round.j3 (k + 1 + 1) L (if neg = true then 9223372036854775808 else 0) 52 11 hi (K : Int) more = some ((FloatKind.f64.format.word neg (min ((L - -1074).toNat * 4503599627370496 + K) 9218868437227405312) : Nat) : Int) := by
  rw [ratchetref04_Format_Round.j3]
  rw [show IntKind.u64.wrap (wrap64 (52 + 1)) = 53 by kernel_rfl, if_pos (by decide)]
  have s1 : ∀ x : Int, shr .u64 x 53 = x / 9007199254740992 := fun x => rfl
  have s2 : ∀ x : Int, shr .u64 x 52 = x / 4503599627370496 := fun x => rfl
  have t1 : shl .i64 1 11 = 2048 := by decide
  have t2 : shl .u64 1 52 = 4503599627370496 := by decide
  have t3 : ∀ x : Int, shl .u64 x 52 = IntKind.u64.wrap (x * 4503599627370496) := fun x => rfl
  have w1 : IntKind.u64.wrap 52 = 52 := by decide
  have w2 : IntKind.u64.wrap 11 = 11 := by decide
  rw [s1, word64]
  have hn : ∃ g : Int, (if neg = true then (9223372036854775808 : Int) else 0) = g ∧ (g = 0 ∨ g = 9223372036854775808) := by cases neg <;> simp
  obtain ⟨g, hg, hg2⟩ := hn
  rw [hg]
  by_cases c1 : K = 9007199254740992
  · have hLe : -1074 ≤ L := hL
    rw [if_pos (by omega), show ((K : Int) / 2) = 4503599627370496 by omega, show wrap64 (L + 1) = L + 1 by unfold wrap64; omega]
    rw [ratchetref04_Format_Round.j4, w1, w2, if_pos (by decide), s2, if_neg (by decide), bias64]
    simp only [Option.bind_some]
    rw [if_pos (by decide), t1, show wrap64 (2048 - 1) = 2047 by kernel_rfl, show wrap64 (L + 1 + 1075) = L + 1076 by unfold wrap64; omega, inf64, t2, t3]
    simp only [Option.bind_some]
    by_cases c2 : L + 1076 ≥ 2047
    · rw [if_pos c2, IntKind.wrap_u64, Nat.min_eq_right (by omega)]
      rcases hg2 with rfl | rfl <;> simp <;> rfl
    · rw [if_neg c2, Nat.min_eq_left (by omega)]
      simp only [IntKind.wrap_u64, Option.some.injEq]
      omega
  · rw [if_neg (by omega), ratchetref04_Format_Round.j4, w1, w2, if_pos (by decide), s2]
    by_cases c3 : K < 4503599627370496
    · have hL' := hlow c3
      subst hL'
      rw [if_pos (by omega), IntKind.wrap_u64, Nat.min_eq_left (by omega)]
      simp only [Option.some.injEq]
      omega
    · rw [if_neg (by omega), bias64]
      simp only [Option.bind_some]
      rw [if_pos (by decide), t1, show wrap64 (2048 - 1) = 2047 by kernel_rfl, show wrap64 (L + 1075) = L + 1075 by unfold wrap64; omega, inf64, t2, t3]
      simp only [Option.bind_some]
      by_cases c2 : L + 1075 ≥ 2047
      · rw [if_pos c2, IntKind.wrap_u64, Nat.min_eq_right (by omega)]
        rcases hg2 with rfl | rfl <;> simp <;> rfl
      · rw [if_neg c2, Nat.min_eq_left (by omega)]
        simp only [IntKind.wrap_u64, Option.some.injEq]
        omega

theorem round_pos64 (k : Nat) (hk : 400 ≤ k) (neg : Bool) (w : Nat) (hw : 0 < w) (hw2 : w < 340282366920938463463374607431768211456) (s : Bool) (e : Int) (he : -10000 ≤ e) (he2 : e ≤ 10000)
    (hs : s = true → 1 ≤ max ((w.log2 : Int) - 52) (-1074 - e)) :
    ratchetref04_Format_Round.f (k + 6) 52 11 neg (hiW w) (loW w) s e = some ((FloatKind.f64.format.nearest neg (2 * w + s.toNat) (e - 1) : Nat) : Int) := by
  have hlen : len w = w.log2 + 1 := by unfold len; rw [if_neg (by omega)]
  have hl128 := len_le w 128 hw2
  have e0 : ratchetref04_Format_Round.f (k + 6) 52 11 neg (hiW w) (loW w) s e = ratchetref04_Format_Round.j0 (k + 5 + 1) e (if neg = true then 9223372036854775808 else 0) 52 11 (hiW w) (loW w) s := by
    unfold ratchetref04_Format_Round.f
    rw [sign64]
    cases neg <;> rfl
  have hn := nearest_sticky FloatKind.f64.format neg w hw s e hs
  rw [show FloatKind.f64.format.fractionBits = 52 from rfl, show FloatKind.f64.format.leastPlace = -1074 by decide, show FloatKind.f64.format.binade = 4503599627370496 by decide, show FloatKind.f64.format.infRung = 9218868437227405312 by decide] at hn
  rw [e0, hn, ratchetref04_Format_Round.j0, long_f _ w (by omega) s hw2, bias64]
  simp only [Option.bind_some]
  have hD : mx (wrap64 (wrap64 ((len w : Int) - 52) - 1)) (wrap64 (wrap64 (1 - 1075) - e)) = max ((w.log2 : Int) - 52) (-1074 - e) := by
    rw [show wrap64 (1 - 1075) = -1074 by kernel_rfl, show wrap64 ((len w : Int) - 52) = (len w : Int) - 52 by unfold wrap64; omega, show wrap64 ((len w : Int) - 52 - 1) = (w.log2 : Int) - 52 by unfold wrap64; omega, show wrap64 (-1074 - e) = -1074 - e by unfold wrap64; omega]
    unfold mx; split <;> omega
  rw [hD]
  have k1 := kept_le w 52 (max ((w.log2 : Int) - 52) (-1074 - e)) (by omega) s
  have k2 := kept_ge w 52 ((w.log2 : Int) - 52) hw rfl s
  have kl : (if max ((w.log2 : Int) - 52) (-1074 - e) ≤ 0 then w * 2 ^ (-(max ((w.log2 : Int) - 52) (-1074 - e))).toNat else keptUp w (max ((w.log2 : Int) - 52) (-1074 - e)).toNat s) < 4503599627370496 → e + max ((w.log2 : Int) - 52) (-1074 - e) = -1074 := by
    intro h
    rcases Int.le_total ((w.log2 : Int) - 52) (-1074 - e) with c | c
    · rw [Int.max_eq_right c]; omega
    · rw [Int.max_eq_left c] at h
      exfalso
      exact absurd h (by rw [show (4503599627370496 : Nat) = 2 ^ 52 by decide]; omega)
  have dlo : -1074 ≤ e + max ((w.log2 : Int) - 52) (-1074 - e) := by omega
  have dhi : max ((w.log2 : Int) - 52) (-1074 - e) ≤ 20000 := by omega
  have dlow : -20000 ≤ max ((w.log2 : Int) - 52) (-1074 - e) := by omega
  generalize max ((w.log2 : Int) - 52) (-1074 - e) = D at hs k1 kl dlo dhi dlow ⊢
  clear hn hD k2 hl128 hlen e0
  rw [show (2 : Nat) ^ (52 + 1) = 9007199254740992 by decide] at k1
  rw [right_f _ D w s (by omega) (by omega) hw2]
  simp only [Option.bind_some]
  have z2 : ∀ (kk : Nat) (m1 m2 : Int) (m3 : Bool), ratchetref04_Format_Round.j1 (kk + 1 + 1) e (if neg = true then 9223372036854775808 else 0) D 52 11 (hiW w) (loW w) s m1 m2 m3 = ratchetref04_Format_Round.j2 (kk + 1) e (if neg = true then 9223372036854775808 else 0) D false 52 11 (hiW w) (loW w) s m1 m2 m3 := by
    intro kk m1 m2 m3
    rw [ratchetref04_Format_Round.j1]
    by_cases c : hiW w = 0
    · rw [if_pos c, show ((loW w == 0) : Bool) = false by simp only [beq_eq_false_iff_ne]; unfold hiW at c; unfold loW; omega]
    · rw [if_neg c]
  by_cases hD0 : D ≤ 0
  · rw [if_pos hD0] at k1 kl ⊢
    rw [if_pos hD0, show wrap64 (-D) = -D by unfold wrap64; omega]
    have hdk : -D < (k : Int) + 3 := by
      have hp : 2 ^ (-D).toNat ≤ w * 2 ^ (-D).toNat := Nat.le_mul_of_pos_left _ hw
      have h3 : (2 : Nat) ^ (-D).toNat ≤ 2 ^ 53 := Nat.le_trans hp k1
      have := (Nat.pow_le_pow_iff_right (a := 2) (by decide)).1 h3
      omega
    rw [left_f _ (-D) w s (by omega) (by omega) (by omega) hw2]
    simp only [Option.bind_some]
    rw [Nat.mod_eq_of_lt (a := w * 2 ^ (-D).toNat) (by omega), hiW_zero (w := w * 2 ^ (-D).toNat) (by omega), loW_small (w := w * 2 ^ (-D).toNat) (by omega), z2, ratchetref04_Format_Round.j2]
    simp only [Bool.false_eq_true, if_false]
    rw [if_neg (by omega), show wrap64 (e + D) = e + D by unfold wrap64; omega]
    exact j3_64 _ neg _ _ _ _ k1 dlo (by omega) kl
  · rw [if_neg hD0] at k1 kl ⊢
    rw [if_neg hD0, z2, ratchetref04_Format_Round.j2]
    simp only [Bool.false_eq_true, if_false]
    rw [if_pos (by omega), show wrap64 (D - 1) = D - 1 by unfold wrap64; omega, show wrap64 (e + D) = e + D by unfold wrap64; omega, right_f _ (D - 1) w s (by omega) (by omega) hw2]
    simp only [Option.bind_some]
    have hdn : (D - 1).toNat = D.toNat - 1 := by omega
    rw [hdn]
    have a1 : ∀ x : Nat, bits .and .u64 (loW x) 1 = ((x % 2 : Nat) : Int) := by
      intro x
      rw [and1 _ (by unfold loW; omega) (by unfold loW; omega)]; unfold loW; omega
    rw [a1, a1]
    have hq : w / 2 ^ D.toNat ≤ 9007199254740992 := by
      unfold keptUp at k1
      exact Nat.le_trans (Nat.le_add_right _ _) k1
    rw [loW_small (w := w / 2 ^ D.toNat) (by omega), IntKind.wrap_u64]
    unfold keptUp at k1 kl ⊢
    generalize w / 2 ^ D.toNat = Q at k1 kl hq ⊢
    rw [show ((Q : Int) + 1) % 18446744073709551616 = ((Q + 1 : Nat) : Int) by omega]
    have hb : w / 2 ^ (D.toNat - 1) % 2 = 0 ∨ w / 2 ^ (D.toNat - 1) % 2 = 1 := by omega
    rcases hb with hb | hb
    · rw [hb] at k1 kl ⊢
      simp only [Nat.zero_ne_one, false_and, if_false, Nat.add_zero] at k1 kl ⊢
      rw [if_neg (by decide)]
      exact j3_64 _ neg _ _ _ _ k1 dlo (by omega) kl
    · rw [hb] at k1 kl ⊢
      simp only [true_and] at k1 kl ⊢
      rw [if_pos (by decide)]
      by_cases c : s = true ∨ w % 2 ^ (D.toNat - 1) ≠ 0
      · have c' : (s || decide (w % 2 ^ (D.toNat - 1) ≠ 0)) = true := by simpa using c
        have c'' : s = true ∨ w % 2 ^ (D.toNat - 1) ≠ 0 ∨ Q % 2 = 1 := c.elim .inl (fun h => .inr (.inl h))
        rw [if_pos c''] at k1 kl ⊢
        rw [if_pos c']
        exact j3_64 _ neg _ _ _ _ k1 dlo (by omega) kl
      · have c' : ¬ ((s || decide (w % 2 ^ (D.toNat - 1) ≠ 0)) = true) := by simpa using c
        rw [if_neg c']
        by_cases d : Q % 2 = 1
        · have c'' : s = true ∨ w % 2 ^ (D.toNat - 1) ≠ 0 ∨ Q % 2 = 1 := .inr (.inr d)
          rw [if_pos c''] at k1 kl ⊢
          rw [d, if_pos (by decide)]
          exact j3_64 _ neg _ _ _ _ k1 dlo (by omega) kl
        · have c'' : ¬ (s = true ∨ w % 2 ^ (D.toNat - 1) ≠ 0 ∨ Q % 2 = 1) := by
            rintro (h | h | h)
            · exact c (.inl h)
            · exact c (.inr h)
            · exact d h
          rw [if_neg c''] at k1 kl ⊢
          rw [if_neg (by omega)]
          exact j3_64 _ neg _ _ _ _ k1 dlo (by omega) kl

theorem round_zero64 (k : Nat) (hk : 400 ≤ k) (neg : Bool) (s : Bool) (e : Int) (he : -10000 ≤ e) (he2 : e ≤ 10000) :
    ratchetref04_Format_Round.f (k + 6) 52 11 neg 0 0 s e = some ((FloatKind.f64.format.word neg 0 : Nat) : Int) := by
  have e0 : ratchetref04_Format_Round.f (k + 6) 52 11 neg 0 0 s e = ratchetref04_Format_Round.j0 (k + 5 + 1) e (if neg = true then 9223372036854775808 else 0) 52 11 (hiW 0) (loW 0) s := by
    unfold ratchetref04_Format_Round.f
    rw [sign64]
    cases neg <;> rfl
  rw [e0, ratchetref04_Format_Round.j0, long_f _ 0 (by omega) s (by decide), bias64]
  simp only [Option.bind_some]
  have hD : mx (wrap64 (wrap64 ((len 0 : Int) - 52) - 1)) (wrap64 (wrap64 (1 - 1075) - e)) = max (-53) (-1074 - e) := by
    rw [show wrap64 (1 - 1075) = -1074 by kernel_rfl, show wrap64 (wrap64 ((len 0 : Int) - 52) - 1) = -53 by kernel_rfl, show wrap64 (-1074 - e) = -1074 - e by unfold wrap64; omega]
    unfold mx; split <;> omega
  rw [hD]
  have d1 : max (-53) (-1074 - e) ≤ 20000 := by omega
  have d2 : -53 ≤ max (-53) (-1074 - e) := by omega
  generalize max (-53) (-1074 - e) = D at d1 d2 ⊢
  rw [right_f _ D 0 s (by omega) (by omega) (by decide)]
  simp only [Option.bind_some]
  have z : ∀ (kk : Nat) (m1 m2 : Int) (m3 : Bool), ratchetref04_Format_Round.j1 (kk + 1 + 1) e (if neg = true then 9223372036854775808 else 0) D 52 11 (hiW 0) (loW 0) s m1 m2 m3 = some (if neg = true then 9223372036854775808 else 0) := by
    intro kk m1 m2 m3
    rw [ratchetref04_Format_Round.j1, show hiW 0 = 0 by decide, show loW 0 = 0 by decide, if_pos rfl, ratchetref04_Format_Round.j2]
    rfl
  rw [word64]
  by_cases hD0 : D ≤ 0
  · rw [if_pos hD0, show wrap64 (-D) = -D by unfold wrap64; omega, left_f _ (-D) 0 s (by omega) (by omega) (by omega) (by decide)]
    simp only [Option.bind_some]
    rw [z]; simp
  · rw [if_neg hD0, z]; simp

end Go.Proofs.Ytapfapngcncaeaa.QF
