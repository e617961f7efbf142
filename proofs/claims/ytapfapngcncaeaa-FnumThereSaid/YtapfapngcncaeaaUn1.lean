/- The reference's root is the model's. -/
import Derived.Test.YtapfapngcncaeaaUn0
import Derived.Test.YtapfapngcncaeaaQFx9
namespace Go.Proofs.Ytapfapngcncaeaa.QF
open Go.RowKit Go.Proofs.YtapfapngcncaeaaW.PrintWords Go.Proofs.YtapfapngcncaeaaW.PrintLast Go.Proofs.YtapfapngcncaeaaW.PrintMore Go.Proofs.Ytapfapngcncaeaa.Ie Go.Proofs.Ytapfapngcncaeaa.Rf

theorem shl_one (i : Nat) (h : i < 64) : shl .u64 1 (i : Int) = ((2 ^ i : Nat) : Int) := by
  unfold shl
  rw [show min (i : Int).toNat IntKind.u64.bits = i by show min (i : Int).toNat 64 = i; omega, IntKind.wrap_u64, Int.one_mul]
  have h1 : (2 : Nat) ^ i ≤ 2 ^ 63 := Nat.pow_le_pow_right (by decide) (by omega)
  have h2 : ((2 : Int) ^ i) = ((2 ^ i : Nat) : Int) := by rw [Int.natCast_pow]; rfl
  rw [h2]
  simp only [Nat.reducePow] at h1
  generalize (2 : Nat) ^ i = g at h1 ⊢
  omega

theorem root_l0 (p q : Int) (w : Nat) (hw : w < 340282366920938463463374607431768211456) (e : Int) (res : Option Int)
    (fin : ∀ (k r : Nat), 406 ≤ k → IsRoot w r → r < 18446744073709551616 →
      ((ratchetref04_times.f k (r : Int) (r : Int)).bind fun bt256 => ((ratchetref04_Format_Round.f k p q false 0 (r : Int) (!((hiW w) == bt256.1) || (!((loW w) == bt256.2.1) || (!(false == bt256.2.2)))) (wrap64 (Int.tdiv e 2))).bind fun t259 => (some t259))) = res) :
    ∀ (t k r : Nat), t ≤ 64 → 407 + t ≤ k → r % 2 ^ t = 0 → r + 2 ^ t ≤ 18446744073709551616 → r * r ≤ w → w < (r + 2 ^ t) * (r + 2 ^ t) →
    ratchetref04_Format_root.l0 k e (r : Int) ((t : Int) - 1) p q (hiW w) (loW w) false = res
  | 0, k, r, ht, hk, hm, hr, h1, h2 => by
    obtain ⟨k, rfl⟩ : ∃ j, k = j + 1 := ⟨k - 1, by omega⟩
    rw [ratchetref04_Format_root.l0, if_neg (by omega)]
    exact fin k r (by omega) ⟨h1, h2⟩ (by simp at hr; omega)
  | t + 1, k, r, ht, hk, hm, hr, h1, h2 => by
    obtain ⟨k, rfl⟩ : ∃ j, k = j + 1 := ⟨k - 1, by omega⟩
    have e2 : (2 : Nat) ^ (t + 1) = 2 ^ t + 2 ^ t := by rw [Nat.pow_succ]; omega
    have hpos : 0 < 2 ^ t := Nat.two_pow_pos t
    have hd : r % 2 ^ t = 0 := by
      have : 2 ^ t ∣ 2 ^ (t + 1) := Nat.pow_dvd_pow 2 (by omega)
      exact Nat.mod_eq_zero_of_dvd (Nat.dvd_trans this (Nat.dvd_of_mod_eq_zero hm))
    rw [ratchetref04_Format_root.l0, if_pos (by omega), show (((t + 1 : Nat) : Int) - 1) = (t : Int) by omega, show IntKind.u64.wrap (t : Int) = t by rw [IntKind.wrap_u64]; omega, if_pos (by omega), shl_one t (by omega)]
    rw [e2] at hr h2
    have hm' : (r + 2 ^ t) % 2 ^ t = 0 := by rw [Nat.add_mod_right]; exact hd
    generalize hg : (2 : Nat) ^ t = g at hr h2 hpos hd hm' ⊢
    have hsum : IntKind.u64.wrap ((r : Int) + (g : Int)) = ((r + g : Nat) : Int) := by rw [IntKind.wrap_u64]; omega
    rw [hsum, times_f k (r + g) (r + g) (by omega) (by omega) (by omega)]
    simp only [Option.bind_some]
    rw [less_f, show wrap64 ((t : Int) - 1) = (t : Int) - 1 by unfold wrap64; omega]
    simp only [Option.bind_some]
    by_cases c : w < (r + g) * (r + g)
    · rw [if_pos (by simpa using c)]
      exact root_l0 p q w hw e res fin t k r (by omega) (by omega) (by rw [hg]; exact hd) (by rw [hg]; omega) h1 (by rw [hg]; exact c)
    · rw [if_neg (by simpa using c)]
      exact root_l0 p q w hw e res fin t k (r + g) (by omega) (by omega) (by rw [hg]; exact hm') (by rw [hg]; omega) (by omega) (by rw [hg, Nat.add_assoc]; exact h2)


theorem root_32 (k : Nat) (hk : 900 ≤ k) (x : Int) (hx0 : 0 ≤ x) (hx1 : x < 18446744073709551616)
    (hx : rung FloatKind.f32.format x.toNat < FloatKind.f32.format.infRung) (hne : rung FloatKind.f32.format x.toNat ≠ 0) (hpos : sgn FloatKind.f32.format x.toNat = false) :
    ∃ v : Nat, FloatKind.f32.format.sqrt x.toNat = some v ∧ ratchetref04_Format_root.f (k + 8) 23 8 x = some (v : Int) := by
  have hE := exf_small_32 _ hx
  have hM := sgf_lt FloatKind.f32.format (rung FloatKind.f32.format x.toNat)
  rw [show FloatKind.f32.format.binade = 8388608 by decide] at hM
  have hM0 : 0 < sgf FloatKind.f32.format (rung FloatKind.f32.format x.toNat) := by have := sgf_zero FloatKind.f32.format (rung FloatKind.f32.format x.toNat); omega
  unfold Ieee.Format.sqrt
  rw [read_eq, unword_parts FloatKind.f32.format _ _ hx, hpos]
  unfold ratchetref04_Format_root.f
  rw [parts32 x hx0 hx1, show FloatKind.f32.format.leastPlace = -149 by decide, show FloatKind.f32.format.fractionBits = 23 from rfl]
  simp only [Option.bind_some]
  generalize sgf FloatKind.f32.format (rung FloatKind.f32.format x.toNat) = M at hM hM0 ⊢
  generalize exf FloatKind.f32.format (rung FloatKind.f32.format x.toNat) = E at hE ⊢
  refine ⟨_, by simp only [Ieee.Datum.root]; rw [if_neg (by omega), if_neg (by decide)]; rfl, ?_⟩
  rw [bits_f (k + 8) M (by omega) (by omega)]
  simp only [Option.bind_some]
  have hlM : len M = M.log2 + 1 := by unfold len; rw [if_neg (by omega)]
  have hlogM : M.log2 ≤ 23 := by
    have := (Nat.log2_lt (n := M) (k := 24) (by omega)).2 (by omega)
    omega
  obtain ⟨L, hL⟩ : ∃ L, M.log2 = L := ⟨_, rfl⟩
  have hML := log2_lt' M
  have hML2 := Nat.log2_self_le (n := M) (by omega)
  rw [hL] at hlM hlogM hML hML2
  rw [show wrap64 (124 - (len M : Int)) = ((123 - L : Nat) : Int) by unfold wrap64; omega]
  have hw0 : 2 ^ (123 - L) * M < 2 ^ 124 := by
    have h1 : 2 ^ (123 - L) * M < 2 ^ (123 - L) * 2 ^ (L + 1) := Nat.mul_lt_mul_of_pos_left hML (Nat.two_pow_pos _)
    rw [← Nat.pow_add, show 123 - L + (L + 1) = 124 by omega] at h1
    exact h1
  have hl1 := left_f (k + 8) ((123 - L : Nat) : Int) M false (by omega) (by omega) (by omega) (by omega)
  rw [hiW_zero (w := M) (by omega), loW_small (w := M) (by omega), Int.toNat_natCast, Nat.mul_comm M, Nat.mod_eq_of_lt (Nat.lt_trans hw0 (by decide))] at hl1
  rw [hl1]
  simp only [Option.bind_some]
  rw [show wrap64 (-149 + (E : Int) - ((123 - L : Nat) : Int)) = -149 + (E : Int) - ((123 - L : Nat) : Int) by unfold wrap64; omega]
  -- the model's: so many digits
  rw [hL]
  obtain ⟨b, hb⟩ : ∃ b : Nat, 2 * (23 + 2) - L + ((-149 + (E : Int) - ((2 * (23 + 2) - L : Nat) : Int)) % 2).toNat = b := ⟨_, rfl⟩
  have hbpar : (-149 + (E : Int) - b) % 2 = 0 := by omega
  have hb1 : 2 * 25 - L ≤ b := by omega
  have hb2 : b ≤ 2 * 25 - L + 1 := by omega
  rw [hb]
  clear hb
  have hmodel : ∀ (m : Nat), m = M <<< b → IsRoot (2 ^ b * M) (Ieee.Datum.rootFrom m (m.log2 / 2 + 1) 0) := by
    intro m hm
    rw [Nat.shiftLeft_eq, Nat.mul_comm] at hm
    rw [← hm]
    exact isqrt_model m
  have hroot := hmodel _ rfl
  have hrge : 2 ^ (FloatKind.f32.format.fractionBits + 1) ≤ Ieee.Datum.rootFrom (M <<< b) ((M <<< b).log2 / 2 + 1) 0 := by
    rw [show FloatKind.f32.format.fractionBits = 23 from rfl]
    rcases Nat.lt_or_ge (Ieee.Datum.rootFrom (M <<< b) ((M <<< b).log2 / 2 + 1) 0) (2 ^ (23 + 1)) with h | h
    · exfalso
      have h1 := hroot.2
      have h2 : (Ieee.Datum.rootFrom (M <<< b) ((M <<< b).log2 / 2 + 1) 0 + 1) * (Ieee.Datum.rootFrom (M <<< b) ((M <<< b).log2 / 2 + 1) 0 + 1) ≤ 2 ^ (23 + 1) * 2 ^ (23 + 1) := Nat.mul_le_mul h h
      have h3 : 2 ^ b * 2 ^ L ≤ 2 ^ b * M := Nat.mul_le_mul_left _ hML2
      rw [← Nat.pow_add] at h2 h3
      have h4 : (2 : Nat) ^ (23 + 1 + (23 + 1)) ≤ 2 ^ (b + L) := Nat.pow_le_pow_right (by decide) (by omega)
      omega
    · exact h
  have hrlt : Ieee.Datum.rootFrom (M <<< b) ((M <<< b).log2 / 2 + 1) 0 < 18446744073709551616 := by
    rcases Nat.lt_or_ge (Ieee.Datum.rootFrom (M <<< b) ((M <<< b).log2 / 2 + 1) 0) (2 ^ 64) with h | h
    · simpa using h
    · exfalso
      have h1 := hroot.1
      have h2 : 2 ^ 64 * 2 ^ 64 ≤ Ieee.Datum.rootFrom (M <<< b) ((M <<< b).log2 / 2 + 1) 0 * Ieee.Datum.rootFrom (M <<< b) ((M <<< b).log2 / 2 + 1) 0 := Nat.mul_le_mul h h
      have h3 : 2 ^ b * M < 2 ^ b * 2 ^ (L + 1) := Nat.mul_lt_mul_of_pos_left hML (Nat.two_pow_pos _)
      rw [← Nat.pow_add] at h2 h3
      have h4 : (2 : Nat) ^ (b + (L + 1)) ≤ 2 ^ (64 + 64) := Nat.pow_le_pow_right (by decide) (by omega)
      omega
  -- the end, at whatever even place
  have main : ∀ (a c : Nat) (e : Int) (kk : Nat), a = b + 2 * c → e = -149 + (E : Int) - a → a ≤ 125 → 600 ≤ kk → 2 ^ a * M < 2 ^ 126 →
      ratchetref04_Format_root.j0 kk e 23 8 (hiW (2 ^ a * M)) (loW (2 ^ a * M)) false
        = some ((FloatKind.f32.format.write (.number false (2 * Ieee.Datum.rootFrom (M <<< b) ((M <<< b).log2 / 2 + 1) 0 + (Ieee.Datum.rootFrom (M <<< b) ((M <<< b).log2 / 2 + 1) 0 * Ieee.Datum.rootFrom (M <<< b) ((M <<< b).log2 / 2 + 1) 0 != M <<< b).toNat) ((-149 + (E : Int) - b) / 2 - 1)) : Nat) : Int) := by
    intro a c e kk ha he ha2 hkk hw
    obtain ⟨kk, rfl⟩ : ∃ j, kk = j + 1 := ⟨kk - 1, by omega⟩
    have hA : 2 ^ a * M = 2 ^ (2 * c) * (2 ^ b * M) := by rw [← Nat.mul_assoc, ← Nat.pow_add, ha, Nat.add_comm]
    rw [ratchetref04_Format_root.j0]
    refine root_l0 23 8 (2 ^ a * M) (Nat.lt_trans hw (by decide)) e _ ?_ 64 kk 0 (by decide) (by omega) (by simp) (by decide) (by simp) (by rw [Nat.zero_add, ← Nat.pow_add]; exact Nat.lt_trans hw (by decide))
    intro j t hj ht ht2
    obtain ⟨j, rfl⟩ : ∃ i, j = i + 6 := ⟨j - 6, by omega⟩
    rw [times_f _ t t (by omega) ht2 ht2]
    simp only [Option.bind_some]
    have hne2 : (!((hiW (2 ^ a * M)) == hiW (t * t)) || (!((loW (2 ^ a * M)) == loW (t * t)) || (!(false == false)))) = decide (t * t ≠ 2 ^ a * M) := by
      rw [Bool.eq_iff_iff]
      simp only [Bool.or_eq_true, Bool.not_eq_true', beq_eq_false_iff_ne, decide_eq_true_eq, beq_self_eq_true, Bool.not_true, Bool.false_eq_true, or_false]
      unfold hiW loW
      omega
    rw [hne2]
    have htpos : 0 < t := by
      rcases Nat.eq_zero_or_pos t with h | h
      · exfalso
        subst h
        have := ht.2
        have h3 : 0 < 2 ^ a * M := Nat.mul_pos (Nat.two_pow_pos _) hM0
        have h4 : 2 ≤ 2 ^ a * M := by
          have h5 : 2 ^ 1 ≤ 2 ^ a := Nat.pow_le_pow_right (by decide) (by omega)
          exact Nat.le_trans h5 (Nat.le_mul_of_pos_right _ hM0)
        omega
      · exact h
    have heven : e % 2 = 0 := by omega
    have htd : Int.tdiv e 2 = e / 2 := by
      have h6 : e = 2 * (e / 2) := by omega
      rw [h6, Int.mul_tdiv_cancel_left _ (by decide)]; omega
    have hnr := near_root FloatKind.f32.format false (2 ^ b * M) c _ t (e / 2 - 1) hroot (by rw [← hA]; exact ht) hrge
    rw [← hA] at hnr
    have htge : 2 ^ 24 ≤ t := by
      rcases Nat.lt_or_ge t (2 ^ 24) with h | h
      · exfalso
        have h2 : (t + 1) * (t + 1) ≤ 2 ^ 24 * 2 ^ 24 := Nat.mul_le_mul h h
        have h3 : 2 ^ a * 2 ^ L ≤ 2 ^ a * M := Nat.mul_le_mul_left _ hML2
        rw [← Nat.pow_add] at h2 h3
        have h4 : (2 : Nat) ^ (24 + 24) ≤ 2 ^ (a + L) := Nat.pow_le_pow_right (by decide) (by omega)
        have := ht.2
        omega
      · exact h
    have htlog := log2_ge htge
    have hrd := round_pos32 j (by omega) false t htpos (by omega) (decide (t * t ≠ 2 ^ a * M)) (e / 2) (by omega) (by omega) (fun _ => by omega)
    rw [hiW_zero (w := t) (by omega), loW_small (w := t) (by omega)] at hrd
    rw [htd, show wrap64 (e / 2) = e / 2 by unfold wrap64; omega, hrd, hnr]
    show some ((FloatKind.f32.format.nearest _ _ _ : Nat) : Int) = some ((FloatKind.f32.format.nearest _ _ _ : Nat) : Int)
    have hpl : e / 2 - 1 + (c : Int) = (-149 + (E : Int) - b) / 2 - 1 := by clear htd hrd hnr; omega
    rw [hpl]
    have hbn : ∀ r n m : Nat, m = n → (r * r != m) = decide (r * r ≠ n) := by
      intro r n m h; subst h; rw [Bool.eq_iff_iff]; simp
    rw [hbn _ (2 ^ b * M) (M <<< b) (by rw [Nat.shiftLeft_eq, Nat.mul_comm])]
  by_cases c : Int.tmod (-149 + (E : Int) - ((123 - L : Nat) : Int)) 2 = 0
  · rw [if_pos c]
    have hc2 : (-149 + (E : Int) - ((123 - L : Nat) : Int)) % 2 = 0 := by
      have := Int.dvd_of_tmod_eq_zero c
      clear c; omega
    have hpar : 123 - L = b + 2 * ((123 - L - b) / 2) := by clear c hl1 hw0 main; omega
    rw [main (123 - L) ((123 - L - b) / 2) _ (k + 8) hpar rfl (by omega) (by omega) (Nat.lt_trans hw0 (by decide))]
  · rw [if_neg c]
    have hc2 : (-149 + (E : Int) - ((123 - L : Nat) : Int)) % 2 = 1 := by
      by_cases h : (-149 + (E : Int) - ((123 - L : Nat) : Int)) % 2 = 0
      · exfalso; exact c (Int.tmod_eq_zero_of_dvd (Int.dvd_of_emod_eq_zero h))
      · clear c; omega
    have hl2 := left_f (k + 8) 1 (2 ^ (123 - L) * M) false (by omega) (by omega) (by omega) (Nat.lt_trans hw0 (by decide))
    have hw1 : 2 ^ (123 - L) * M * 2 ^ 1 = 2 ^ (124 - L) * M := by
      rw [Nat.mul_right_comm, ← Nat.pow_add]; congr 2; omega
    have hw2 : 2 ^ (124 - L) * M < 2 ^ 126 := by rw [← hw1]; omega
    rw [show Int.toNat 1 = 1 from rfl, hw1, Nat.mod_eq_of_lt (Nat.lt_trans hw2 (by decide))] at hl2
    rw [hl2]
    simp only [Option.bind_some]
    rw [show wrap64 (-149 + (E : Int) - ((123 - L : Nat) : Int) - 1) = -149 + (E : Int) - ((124 - L : Nat) : Int) by unfold wrap64; omega]
    have hpar : 124 - L = b + 2 * ((124 - L - b) / 2) := by clear c hl1 hl2 hw0 hw1 hw2 main; omega
    rw [main (124 - L) ((124 - L - b) / 2) _ (k + 8) hpar rfl (by omega) (by omega) hw2]


theorem root_64 (k : Nat) (hk : 900 ≤ k) (x : Int) (hx0 : 0 ≤ x) (hx1 : x < 18446744073709551616)
    (hx : rung FloatKind.f64.format x.toNat < FloatKind.f64.format.infRung) (hne : rung FloatKind.f64.format x.toNat ≠ 0) (hpos : sgn FloatKind.f64.format x.toNat = false) :
    ∃ v : Nat, FloatKind.f64.format.sqrt x.toNat = some v ∧ ratchetref04_Format_root.f (k + 8) 52 11 x = some (v : Int) := by
  have hE := exf_small_64 _ hx
  have hM := sgf_lt FloatKind.f64.format (rung FloatKind.f64.format x.toNat)
  rw [show FloatKind.f64.format.binade = 4503599627370496 by decide] at hM
  have hM0 : 0 < sgf FloatKind.f64.format (rung FloatKind.f64.format x.toNat) := by have := sgf_zero FloatKind.f64.format (rung FloatKind.f64.format x.toNat); omega
  unfold Ieee.Format.sqrt
  rw [read_eq, unword_parts FloatKind.f64.format _ _ hx, hpos]
  unfold ratchetref04_Format_root.f
  rw [parts64 x hx0 hx1, show FloatKind.f64.format.leastPlace = -1074 by decide, show FloatKind.f64.format.fractionBits = 52 from rfl]
  simp only [Option.bind_some]
  generalize sgf FloatKind.f64.format (rung FloatKind.f64.format x.toNat) = M at hM hM0 ⊢
  generalize exf FloatKind.f64.format (rung FloatKind.f64.format x.toNat) = E at hE ⊢
  refine ⟨_, by simp only [Ieee.Datum.root]; rw [if_neg (by omega), if_neg (by decide)]; rfl, ?_⟩
  rw [bits_f (k + 8) M (by omega) (by omega)]
  simp only [Option.bind_some]
  have hlM : len M = M.log2 + 1 := by unfold len; rw [if_neg (by omega)]
  have hlogM : M.log2 ≤ 52 := by
    have := (Nat.log2_lt (n := M) (k := 53) (by omega)).2 (by omega)
    omega
  obtain ⟨L, hL⟩ : ∃ L, M.log2 = L := ⟨_, rfl⟩
  have hML := log2_lt' M
  have hML2 := Nat.log2_self_le (n := M) (by omega)
  rw [hL] at hlM hlogM hML hML2
  rw [show wrap64 (124 - (len M : Int)) = ((123 - L : Nat) : Int) by unfold wrap64; omega]
  have hw0 : 2 ^ (123 - L) * M < 2 ^ 124 := by
    have h1 : 2 ^ (123 - L) * M < 2 ^ (123 - L) * 2 ^ (L + 1) := Nat.mul_lt_mul_of_pos_left hML (Nat.two_pow_pos _)
    rw [← Nat.pow_add, show 123 - L + (L + 1) = 124 by omega] at h1
    exact h1
  have hl1 := left_f (k + 8) ((123 - L : Nat) : Int) M false (by omega) (by omega) (by omega) (by omega)
  rw [hiW_zero (w := M) (by omega), loW_small (w := M) (by omega), Int.toNat_natCast, Nat.mul_comm M, Nat.mod_eq_of_lt (Nat.lt_trans hw0 (by decide))] at hl1
  rw [hl1]
  simp only [Option.bind_some]
  rw [show wrap64 (-1074 + (E : Int) - ((123 - L : Nat) : Int)) = -1074 + (E : Int) - ((123 - L : Nat) : Int) by unfold wrap64; omega]
  -- the model's: so many digits
  rw [hL]
  obtain ⟨b, hb⟩ : ∃ b : Nat, 2 * (52 + 2) - L + ((-1074 + (E : Int) - ((2 * (52 + 2) - L : Nat) : Int)) % 2).toNat = b := ⟨_, rfl⟩
  have hbpar : (-1074 + (E : Int) - b) % 2 = 0 := by omega
  have hb1 : 2 * 54 - L ≤ b := by omega
  have hb2 : b ≤ 2 * 54 - L + 1 := by omega
  rw [hb]
  clear hb
  have hmodel : ∀ (m : Nat), m = M <<< b → IsRoot (2 ^ b * M) (Ieee.Datum.rootFrom m (m.log2 / 2 + 1) 0) := by
    intro m hm
    rw [Nat.shiftLeft_eq, Nat.mul_comm] at hm
    rw [← hm]
    exact isqrt_model m
  have hroot := hmodel _ rfl
  have hrge : 2 ^ (FloatKind.f64.format.fractionBits + 1) ≤ Ieee.Datum.rootFrom (M <<< b) ((M <<< b).log2 / 2 + 1) 0 := by
    rw [show FloatKind.f64.format.fractionBits = 52 from rfl]
    rcases Nat.lt_or_ge (Ieee.Datum.rootFrom (M <<< b) ((M <<< b).log2 / 2 + 1) 0) (2 ^ (52 + 1)) with h | h
    · exfalso
      have h1 := hroot.2
      have h2 : (Ieee.Datum.rootFrom (M <<< b) ((M <<< b).log2 / 2 + 1) 0 + 1) * (Ieee.Datum.rootFrom (M <<< b) ((M <<< b).log2 / 2 + 1) 0 + 1) ≤ 2 ^ (52 + 1) * 2 ^ (52 + 1) := Nat.mul_le_mul h h
      have h3 : 2 ^ b * 2 ^ L ≤ 2 ^ b * M := Nat.mul_le_mul_left _ hML2
      rw [← Nat.pow_add] at h2 h3
      have h4 : (2 : Nat) ^ (52 + 1 + (52 + 1)) ≤ 2 ^ (b + L) := Nat.pow_le_pow_right (by decide) (by omega)
      omega
    · exact h
  have hrlt : Ieee.Datum.rootFrom (M <<< b) ((M <<< b).log2 / 2 + 1) 0 < 18446744073709551616 := by
    rcases Nat.lt_or_ge (Ieee.Datum.rootFrom (M <<< b) ((M <<< b).log2 / 2 + 1) 0) (2 ^ 64) with h | h
    · simpa using h
    · exfalso
      have h1 := hroot.1
      have h2 : 2 ^ 64 * 2 ^ 64 ≤ Ieee.Datum.rootFrom (M <<< b) ((M <<< b).log2 / 2 + 1) 0 * Ieee.Datum.rootFrom (M <<< b) ((M <<< b).log2 / 2 + 1) 0 := Nat.mul_le_mul h h
      have h3 : 2 ^ b * M < 2 ^ b * 2 ^ (L + 1) := Nat.mul_lt_mul_of_pos_left hML (Nat.two_pow_pos _)
      rw [← Nat.pow_add] at h2 h3
      have h4 : (2 : Nat) ^ (b + (L + 1)) ≤ 2 ^ (64 + 64) := Nat.pow_le_pow_right (by decide) (by omega)
      omega
  -- the end, at whatever even place
  have main : ∀ (a c : Nat) (e : Int) (kk : Nat), a = b + 2 * c → e = -1074 + (E : Int) - a → a ≤ 125 → 600 ≤ kk → 2 ^ a * M < 2 ^ 126 →
      ratchetref04_Format_root.j0 kk e 52 11 (hiW (2 ^ a * M)) (loW (2 ^ a * M)) false
        = some ((FloatKind.f64.format.write (.number false (2 * Ieee.Datum.rootFrom (M <<< b) ((M <<< b).log2 / 2 + 1) 0 + (Ieee.Datum.rootFrom (M <<< b) ((M <<< b).log2 / 2 + 1) 0 * Ieee.Datum.rootFrom (M <<< b) ((M <<< b).log2 / 2 + 1) 0 != M <<< b).toNat) ((-1074 + (E : Int) - b) / 2 - 1)) : Nat) : Int) := by
    intro a c e kk ha he ha2 hkk hw
    obtain ⟨kk, rfl⟩ : ∃ j, kk = j + 1 := ⟨kk - 1, by omega⟩
    have hA : 2 ^ a * M = 2 ^ (2 * c) * (2 ^ b * M) := by rw [← Nat.mul_assoc, ← Nat.pow_add, ha, Nat.add_comm]
    rw [ratchetref04_Format_root.j0]
    refine root_l0 52 11 (2 ^ a * M) (Nat.lt_trans hw (by decide)) e _ ?_ 64 kk 0 (by decide) (by omega) (by simp) (by decide) (by simp) (by rw [Nat.zero_add, ← Nat.pow_add]; exact Nat.lt_trans hw (by decide))
    intro j t hj ht ht2
    obtain ⟨j, rfl⟩ : ∃ i, j = i + 6 := ⟨j - 6, by omega⟩
    rw [times_f _ t t (by omega) ht2 ht2]
    simp only [Option.bind_some]
    have hne2 : (!((hiW (2 ^ a * M)) == hiW (t * t)) || (!((loW (2 ^ a * M)) == loW (t * t)) || (!(false == false)))) = decide (t * t ≠ 2 ^ a * M) := by
      rw [Bool.eq_iff_iff]
      simp only [Bool.or_eq_true, Bool.not_eq_true', beq_eq_false_iff_ne, decide_eq_true_eq, beq_self_eq_true, Bool.not_true, Bool.false_eq_true, or_false]
      unfold hiW loW
      omega
    rw [hne2]
    have htpos : 0 < t := by
      rcases Nat.eq_zero_or_pos t with h | h
      · exfalso
        subst h
        have := ht.2
        have h3 : 0 < 2 ^ a * M := Nat.mul_pos (Nat.two_pow_pos _) hM0
        have h4 : 2 ≤ 2 ^ a * M := by
          have h5 : 2 ^ 1 ≤ 2 ^ a := Nat.pow_le_pow_right (by decide) (by omega)
          exact Nat.le_trans h5 (Nat.le_mul_of_pos_right _ hM0)
        omega
      · exact h
    have heven : e % 2 = 0 := by omega
    have htd : Int.tdiv e 2 = e / 2 := by
      have h6 : e = 2 * (e / 2) := by omega
      rw [h6, Int.mul_tdiv_cancel_left _ (by decide)]; omega
    have hnr := near_root FloatKind.f64.format false (2 ^ b * M) c _ t (e / 2 - 1) hroot (by rw [← hA]; exact ht) hrge
    rw [← hA] at hnr
    have htge : 2 ^ 53 ≤ t := by
      rcases Nat.lt_or_ge t (2 ^ 53) with h | h
      · exfalso
        have h2 : (t + 1) * (t + 1) ≤ 2 ^ 53 * 2 ^ 53 := Nat.mul_le_mul h h
        have h3 : 2 ^ a * 2 ^ L ≤ 2 ^ a * M := Nat.mul_le_mul_left _ hML2
        rw [← Nat.pow_add] at h2 h3
        have h4 : (2 : Nat) ^ (53 + 53) ≤ 2 ^ (a + L) := Nat.pow_le_pow_right (by decide) (by omega)
        have := ht.2
        omega
      · exact h
    have htlog := log2_ge htge
    have hrd := round_pos64 j (by omega) false t htpos (by omega) (decide (t * t ≠ 2 ^ a * M)) (e / 2) (by omega) (by omega) (fun _ => by omega)
    rw [hiW_zero (w := t) (by omega), loW_small (w := t) (by omega)] at hrd
    rw [htd, show wrap64 (e / 2) = e / 2 by unfold wrap64; omega, hrd, hnr]
    show some ((FloatKind.f64.format.nearest _ _ _ : Nat) : Int) = some ((FloatKind.f64.format.nearest _ _ _ : Nat) : Int)
    have hpl : e / 2 - 1 + (c : Int) = (-1074 + (E : Int) - b) / 2 - 1 := by clear htd hrd hnr; omega
    rw [hpl]
    have hbn : ∀ r n m : Nat, m = n → (r * r != m) = decide (r * r ≠ n) := by
      intro r n m h; subst h; rw [Bool.eq_iff_iff]; simp
    rw [hbn _ (2 ^ b * M) (M <<< b) (by rw [Nat.shiftLeft_eq, Nat.mul_comm])]
  by_cases c : Int.tmod (-1074 + (E : Int) - ((123 - L : Nat) : Int)) 2 = 0
  · rw [if_pos c]
    have hc2 : (-1074 + (E : Int) - ((123 - L : Nat) : Int)) % 2 = 0 := by
      have := Int.dvd_of_tmod_eq_zero c
      clear c; omega
    have hpar : 123 - L = b + 2 * ((123 - L - b) / 2) := by clear c hl1 hw0 main; omega
    rw [main (123 - L) ((123 - L - b) / 2) _ (k + 8) hpar rfl (by omega) (by omega) (Nat.lt_trans hw0 (by decide))]
  · rw [if_neg c]
    have hc2 : (-1074 + (E : Int) - ((123 - L : Nat) : Int)) % 2 = 1 := by
      by_cases h : (-1074 + (E : Int) - ((123 - L : Nat) : Int)) % 2 = 0
      · exfalso; exact c (Int.tmod_eq_zero_of_dvd (Int.dvd_of_emod_eq_zero h))
      · clear c; omega
    have hl2 := left_f (k + 8) 1 (2 ^ (123 - L) * M) false (by omega) (by omega) (by omega) (Nat.lt_trans hw0 (by decide))
    have hw1 : 2 ^ (123 - L) * M * 2 ^ 1 = 2 ^ (124 - L) * M := by
      rw [Nat.mul_right_comm, ← Nat.pow_add]; congr 2; omega
    have hw2 : 2 ^ (124 - L) * M < 2 ^ 126 := by rw [← hw1]; omega
    rw [show Int.toNat 1 = 1 from rfl, hw1, Nat.mod_eq_of_lt (Nat.lt_trans hw2 (by decide))] at hl2
    rw [hl2]
    simp only [Option.bind_some]
    rw [show wrap64 (-1074 + (E : Int) - ((123 - L : Nat) : Int) - 1) = -1074 + (E : Int) - ((124 - L : Nat) : Int) by unfold wrap64; omega]
    have hpar : 124 - L = b + 2 * ((124 - L - b) / 2) := by clear c hl1 hl2 hw0 hw1 hw2 main; omega
    rw [main (124 - L) ((124 - L - b) / 2) _ (k + 8) hpar rfl (by omega) (by omega) hw2]

end Go.Proofs.Ytapfapngcncaeaa.QF
