/- Floats of whole numbers, and the contract of fnum.Convert where whole numbers go there and back. -/
import Derived.Test.YtapfapngcncaeaaFl10
import Derived.Test.YtapfapngcncaeaaUn2
namespace Go.Proofs.Ytapfapngcncaeaa.Fl
open Ieee Go.RowKit Go.Proofs.Ytapfapngcncaeaa.Ie
set_option linter.unusedSimpArgs false

/-- The float64 of a whole number that has no more than 53 digits. -/
theorem F_word (n : Int) (hn : n.natAbs < 9007199254740992) (j : Nat) (hj : j = 1074) : ∃ r, r < FloatKind.f64.format.infRung ∧ floatOfInt .f64 n = FloatKind.f64.format.word (decide (n < 0)) r ∧ mag FloatKind.f64.format r = n.natAbs * 2 ^ j := by
  obtain ⟨r, hr, hm⟩ := rep FloatKind.f64.format (by decide) n.natAbs j (by rw [show (2 : Nat) ^ (FloatKind.f64.format.fractionBits + 1) = 9007199254740992 by decide]; exact hn) (by rw [show (2 : Nat) ^ FloatKind.f64.format.exponentBits = 2048 by decide]; omega)
  refine ⟨r, hr, ?_, hm⟩
  have a3 := nearest_exact FloatKind.f64.format (decide (n < 0)) r n.natAbs j hr hm.symm
  rw [f64_lp, show (-1074 + (j : Int)) = 0 by omega] at a3
  exact a3
theorem F_fin (n : Int) (hn : n.natAbs < 9007199254740992) : ∃ r, r < FloatKind.f64.format.infRung ∧ FloatKind.f64.decode (floatOfInt .f64 n) = .number (decide (n < 0)) (sgf FloatKind.f64.format r) (-1074 + (exf FloatKind.f64.format r : Int)) ∧ (∀ way, wholeK way (decide (n < 0)) (sgf FloatKind.f64.format r) (-1074 + (exf FloatKind.f64.format r : Int)) = n.natAbs) := by
  obtain ⟨j, hj⟩ : ∃ j : Nat, j = 1074 := ⟨_, rfl⟩
  obtain ⟨r, hr, hw, hm⟩ := F_word n hn j hj
  refine ⟨r, hr, ?_, ?_⟩
  · rw [hw, decode_word _ hr, f64_lp]
  · intro way
    have a1 := wholeK_scale way (decide (n < 0)) (sgf FloatKind.f64.format r) (exf FloatKind.f64.format r) (-1074 + (exf FloatKind.f64.format r : Int))
    have a2 := wholeK_scale way (decide (n < 0)) n.natAbs j 0
    rw [← mag_parts, hm, show -1074 + (exf FloatKind.f64.format r : Int) - (exf FloatKind.f64.format r : Int) = 0 - (j : Int) by omega] at a1
    rw [← a1, a2, wholeK_pos _ _ _ _ (Int.le_refl 0)]
    simp
theorem F_num (n : Int) (hn : n.natAbs < 9007199254740992) : isNum .f64 (floatOfInt .f64 n) = true := by
  obtain ⟨r, hr, hw, _⟩ := F_word n hn _ rfl
  rw [hw]; exact fin_num (Nat.le_of_lt hr)
theorem F_integral (n : Int) (hn : n.natAbs < 9007199254740992) (way : Toward) (r : Nat) (h : RoundRes way (floatOfInt .f64 n) r) : r = floatOfInt .f64 n := by
  rcases h with ⟨h, _⟩ | ⟨_, rfl⟩
  · exact absurd h ((isNum_iff _ _).1 (F_num n hn))
  · obtain ⟨q, hq, hd, hk⟩ := F_fin n hn
    rw [hd, integral_fin, hk]; rfl
theorem F_toInt (n : Int) (hn : n.natAbs < 9007199254740992) (k : IntKind) (h0 : k.min ≤ n) (h1 : n ≤ k.max) : floatToIntVal .f64 (floatOfInt .f64 n) k = some n := by
  obtain ⟨q, hq, hd, hk⟩ := F_fin n hn
  have e : (FloatKind.f64.decode (floatOfInt .f64 n)).toInt .zero = some n := by
    unfold Datum.toInt
    rw [hd, integral_fin, hk]
    show some (signed (decide (n < 0)) n.natAbs 0) = some n
    unfold signed
    rw [Nat.shiftLeft_zero]
    by_cases c : n < 0
    · rw [decide_eq_true c, if_pos rfl]; congr 1; omega
    · rw [decide_eq_false c, if_neg (by decide)]; congr 1; omega
  unfold floatToIntVal
  rw [e]
  simp only
  rw [if_pos ⟨h0, h1⟩]
theorem sig_mag (n : Int) (j : Nat) : sig (decide (n < 0)) (n.natAbs * 2 ^ j) = n * ((2 ^ j : Nat) : Int) := by
  unfold sig
  by_cases c : n < 0
  · rw [decide_eq_true c, if_pos rfl, Int.natCast_mul]
    rw [show ((n.natAbs : Nat) : Int) = -n by omega, Int.neg_mul, Int.neg_neg]
  · rw [decide_eq_false c, if_neg (by decide), Int.natCast_mul, show ((n.natAbs : Nat) : Int) = n by omega]
theorem F_order (n m : Int) (hn : n.natAbs < 9007199254740992) (hm : m.natAbs < 9007199254740992) : FloatKind.f64.format.order (floatOfInt .f64 n) (floatOfInt .f64 m) = some (compare n m) := by
  obtain ⟨j, hj⟩ : ∃ j : Nat, j = 1074 := ⟨_, rfl⟩
  obtain ⟨r, hr, hw, hg⟩ := F_word n hn j hj
  obtain ⟨t, ht, hv, hh⟩ := F_word m hm j hj
  have b1 := word_lt_sign FloatKind.f64.format (Nat.le_of_lt hr)
  have b2 := word_lt_sign FloatKind.f64.format (Nat.le_of_lt ht)
  rw [hw, hv, order_key _ (by decide) _ _ (by rw [word_rung _ _ b1]; exact Nat.le_of_lt hr) (by rw [word_rung _ _ b2]; exact Nat.le_of_lt ht)]
  unfold key
  rw [word_rung _ _ b1, word_rung _ _ b2, word_sgn _ _ b1, word_sgn _ _ b2, ← compare_sig, hg, hh, sig_mag, sig_mag]
  rw [← compare_mul n m _ (by exact Int.natCast_pos.2 (Nat.two_pow_pos _))]
theorem F_lo : (13970166044103278592 : Nat) = floatOfInt .f64 (-2147483648) := by decide
theorem F_hi : (4746794007248502784 : Nat) = floatOfInt .f64 2147483648 := by decide
theorem F_top : (4751297606875873280 : Nat) = floatOfInt .f64 4294967296 := by decide
theorem F_zero : (0 : Nat) = floatOfInt .f64 0 := by decide
theorem F_lt (n : Int) (hn : n.natAbs < 9007199254740992) : floatOfInt .f64 n < 18446744073709551616 := by
  obtain ⟨r, hr, hw, _⟩ := F_word n hn _ rfl
  rw [hw, f64_inf] at *
  unfold Format.word
  rw [show FloatKind.f64.format.signWeight = 9223372036854775808 by decide]
  split <;> omega

set_option maxRecDepth 100000 in
theorem cut_s (n : Int) (h0 : -2147483648 ≤ n) (h1 : n < 2147483648) (w : World) : Calls Try.prog 54 #[.int .i64 2, .int .u64 (floatOfInt .f64 n : Nat), .int .i64 32] w fun e w' => e = .returned (.tuple #[.int .u64 (n % 4294967296), .int .i64 0]) ∧ Below w.heap.size w w' := by
  have hb : n.natAbs < 9007199254740992 := by omega
  have hlt := F_lt n hb
  have hT := F_toInt n hb .i64 (by simp [IntKind.min, IntKind.signed, IntKind.bits]; omega) (by simp [IntKind.max, IntKind.signed, IntKind.bits]; omega)
  have c0 := F_order n n hb hb
  have c1 := F_order n (-2147483648) hb (by decide)
  have c2 := F_order n 2147483648 hb (by decide)
  rw [← F_lo] at c1
  rw [← F_hi] at c2
  have hI := Lib.hid (F_integral n hb .zero)
  have HT := Lib.hid hT
  obtain ⟨f, hf⟩ : ∃ f, floatOfInt .f64 n = f := ⟨_, rfl⟩
  rw [hf] at c0 c1 c2 hI HT hlt ⊢
  have d0 : (FloatKind.f64.format.order f f != some .eq) = false := by rw [c0, show compare n n = .eq by simp [compare, compareOfLessAndEq]]; rfl
  have d1 : (FloatKind.f64.format.order f 13970166044103278592 == some .lt) = false := by
    rw [c1]
    have : compare n (-2147483648) ≠ .lt := by simp only [compare, compareOfLessAndEq]; rw [if_neg (by omega)]; split <;> decide
    cases h : compare n (-2147483648) <;> first | exact absurd h this | rfl
  have d2 : FloatKind.f64.format.order f 4746794007248502784 = some .lt := by
    rw [c2]; simp only [compare, compareOfLessAndEq]; rw [if_pos (by omega)]
  clear c0 c1 c2 hT hf
  have e2 : (FloatKind.f64.format.order f 4746794007248502784 == some .gt) = false := by rw [d2]; rfl
  have e3 : (FloatKind.f64.format.order f 4746794007248502784 == some .eq) = false := by rw [d2]; rfl
  clear d2
  have hft : ((f : Int)).toNat = f := by omega
  go_enter Try.func54, Try.ntmps54
  go_wp2_with (first | (go_at_call 77; refine (from_calls _ _ (by decide) _).mono ?_; rintro e w' ⟨rfl, rfl⟩) | (go_at_call 76; refine (trunc_calls _ (by omega) _).mono ?_; rintro e w' ⟨r, c, rfl, hR, rfl⟩; (try rw [hft] at hR); have hRR := hI.out _ hR; clear hR; subst hRR) | (go_at_call 78; refine (ends_s _).mono ?_; rintro e w' ⟨rfl, rfl⟩) | (go_at_call 79; refine (whole_s _ n HT.out _).mono ?_; rintro e w' ⟨rfl, rfl⟩))
  go_ret2
  exact ⟨rfl, below_drewN (Below.refl _ _) _⟩
set_option maxRecDepth 100000 in
theorem cut_u (n : Int) (h0 : 0 ≤ n) (h1 : n < 4294967296) (w : World) : Calls Try.prog 54 #[.int .i64 3, .int .u64 (floatOfInt .f64 n : Nat), .int .i64 32] w fun e w' => e = .returned (.tuple #[.int .u64 (n % 4294967296), .int .i64 0]) ∧ Below w.heap.size w w' := by
  have hb : n.natAbs < 9007199254740992 := by omega
  have hlt := F_lt n hb
  have hT := F_toInt n hb .u64 (by simp [IntKind.min, IntKind.signed, IntKind.bits]; omega) (by simp [IntKind.max, IntKind.signed, IntKind.bits]; omega)
  have c0 := F_order n n hb hb
  have c1 := F_order n 0 hb (by decide)
  have c2 := F_order n 4294967296 hb (by decide)
  rw [← F_zero] at c1
  rw [← F_top] at c2
  have hI := Lib.hid (F_integral n hb .zero)
  have HT := Lib.hid hT
  obtain ⟨f, hf⟩ : ∃ f, floatOfInt .f64 n = f := ⟨_, rfl⟩
  rw [hf] at c0 c1 c2 hI HT hlt ⊢
  have d0 : (FloatKind.f64.format.order f f != some .eq) = false := by rw [c0, show compare n n = .eq by simp [compare, compareOfLessAndEq]]; rfl
  have d1 : (FloatKind.f64.format.order f 0 == some .lt) = false := by
    rw [c1]
    have : compare n 0 ≠ .lt := by simp only [compare, compareOfLessAndEq]; rw [if_neg (by omega)]; split <;> decide
    cases h : compare n 0 <;> first | exact absurd h this | rfl
  have d2 : FloatKind.f64.format.order f 4751297606875873280 = some .lt := by
    rw [c2]; simp only [compare, compareOfLessAndEq]; rw [if_pos (by omega)]
  clear c0 c1 c2 hT hf
  have e2 : (FloatKind.f64.format.order f 4751297606875873280 == some .gt) = false := by rw [d2]; rfl
  have e3 : (FloatKind.f64.format.order f 4751297606875873280 == some .eq) = false := by rw [d2]; rfl
  clear d2
  have hft : ((f : Int)).toNat = f := by omega
  go_enter Try.func54, Try.ntmps54
  go_wp2_with (first | (go_at_call 77; refine (from_calls _ _ (by decide) _).mono ?_; rintro e w' ⟨rfl, rfl⟩) | (go_at_call 76; refine (trunc_calls _ (by omega) _).mono ?_; rintro e w' ⟨r, c, rfl, hR, rfl⟩; (try rw [hft] at hR); have hRR := hI.out _ hR; clear hR; subst hRR) | (go_at_call 78; refine (ends_u _).mono ?_; rintro e w' ⟨rfl, rfl⟩) | (go_at_call 79; refine (whole_u _ n HT.out _).mono ?_; rintro e w' ⟨rfl, rfl⟩))
  go_ret2
  exact ⟨rfl, below_drewN (Below.refl _ _) _⟩

set_option maxRecDepth 100000 in
theorem conv_bb (a : Int) (w : World) : Calls Try.prog 32 #[.int .i64 187, .int .u64 a] w fun e w' => ∃ d, ConvRes .f32 .f64 (a % 4294967296).toNat d ∧ e = .returned (.tuple #[.int .u64 (outB .f64 d), .int .i64 0]) ∧ Below w.heap.size w w' := by
  obtain ⟨D, C, hD, hR⟩ := conv_up (a % 4294967296).toNat
  have HR := Lib.hid hR
  clear hR
  go_enter Try.func32, Try.ntmps32
  go_wp2_with (first | (go_at_call 36; refine (single_calls _ _).mono ?_; rintro e w' ⟨rfl, rfl⟩) | (go_at_call 51; refine (bits64_any _ _).mono ?_; rintro e w' ⟨rfl, rfl⟩))
  go_ret2
  exact ⟨_, HR.out _, rfl, below_drewN (Below.refl _ _) _⟩
set_option maxRecDepth 100000 in
theorem conv_b6 (a : Int) (w : World) : Calls Try.prog 32 #[.int .i64 182, .int .u64 a] w fun e w' => ∃ d, ConvRes .f64 .f32 a.toNat d ∧ e = .returned (.tuple #[.int .u64 (outB .f32 d), .int .i64 0]) ∧ Below w.heap.size w w' := by
  obtain ⟨D, C, hD, hR⟩ := conv_down a.toNat
  have HR := Lib.hid hR
  clear hR
  go_enter Try.func32, Try.ntmps32
  go_wp2_with (first | (go_at_call 37; refine (double_calls _ _).mono ?_; rintro e w' ⟨rfl, rfl⟩) | (go_at_call 49; refine (bits32_any _ (conv_lt (s := .f64) (k := .f32) (by decide) (HR.out _)) _).mono ?_; rintro e w' ⟨rfl, rfl⟩))
  go_ret2
  exact ⟨_, HR.out _, rfl, below_drewN (Below.refl _ _) _⟩
theorem outB_F (n : Int) (hn : n.natAbs < 9007199254740992) : outB .f64 (floatOfInt .f64 n) = (floatOfInt .f64 n : Int) := by
  unfold outB; rw [if_pos (F_num n hn)]
set_option maxRecDepth 100000 in
theorem conv_b7 (a : Int) (w : World) : Calls Try.prog 32 #[.int .i64 183, .int .u64 a] w fun e w' => e = .returned (.tuple #[.int .u64 (floatOfInt .f64 (wrap32 a) : Nat), .int .i64 0]) ∧ Below w.heap.size w w' := by
  have hb : (wrap32 a).natAbs < 9007199254740992 := by unfold wrap32; omega
  have ho := outB_F _ hb
  have hu := Try.underlying53
  go_enter Try.func32, Try.ntmps32
  go_wp2_with (first | (go_at_call 51; refine (bits64_any _ _).mono ?_; rintro e w' ⟨rfl, rfl⟩))
  go_ret2
  exact ⟨rfl, Below.refl _ _⟩
set_option maxRecDepth 100000 in
theorem conv_b8 (a : Int) (w : World) : Calls Try.prog 32 #[.int .i64 184, .int .u64 a] w fun e w' => e = .returned (.tuple #[.int .u64 (floatOfInt .f64 (a % 4294967296) : Nat), .int .i64 0]) ∧ Below w.heap.size w w' := by
  have hb : (a % 4294967296).natAbs < 9007199254740992 := by omega
  have ho := outB_F _ hb
  have hu := Try.underlying53
  go_enter Try.func32, Try.ntmps32
  go_wp2_with (first | (go_at_call 51; refine (bits64_any _ _).mono ?_; rintro e w' ⟨rfl, rfl⟩))
  go_ret2
  exact ⟨rfl, Below.refl _ _⟩
set_option maxRecDepth 100000 in
theorem conv_aa (n : Int) (h0 : -2147483648 ≤ n) (h1 : n < 2147483648) (w : World) : Calls Try.prog 32 #[.int .i64 170, .int .u64 (floatOfInt .f64 n : Nat)] w fun e w' => e = .returned (.tuple #[.int .u64 (n % 4294967296), .int .i64 0]) ∧ Below w.heap.size w w' := by
  have H := Lib.hid (cut_s n h0 h1)
  go_enter Try.func32, Try.ntmps32
  go_wp2_with (go_at_call 54; refine (H.out _).mono ?_; rintro e w' ⟨rfl, hb⟩)
  go_ret2
  exact ⟨rfl, hb⟩
set_option maxRecDepth 100000 in
theorem conv_ab (n : Int) (h0 : 0 ≤ n) (h1 : n < 4294967296) (w : World) : Calls Try.prog 32 #[.int .i64 171, .int .u64 (floatOfInt .f64 n : Nat)] w fun e w' => e = .returned (.tuple #[.int .u64 (n % 4294967296), .int .i64 0]) ∧ Below w.heap.size w w' := by
  have H := Lib.hid (cut_u n h0 h1)
  go_enter Try.func32, Try.ntmps32
  go_wp2_with (go_at_call 54; refine (H.out _).mono ?_; rintro e w' ⟨rfl, hb⟩)
  go_ret2
  exact ⟨rfl, hb⟩
end Go.Proofs.Ytapfapngcncaeaa.Fl
