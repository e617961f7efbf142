/- What the reference's Add, Mul, Div answer, of words that are no NaN. (Printed by wip/bin5gen.py.) -/
import Derived.Test.YtapfapngcncaeaaBin3
import Derived.Test.YtapfapngcncaeaaBin4
namespace Go.Proofs.Ytapfapngcncaeaa.QF
open Go.RowKit Go.Proofs.Ytapfapngcncaeaa.Ie Go.Proofs.Ytapfapngcncaeaa.Rf Go.Proofs.Ytapfapngcncaeaa.Fl
theorem inf_32 : FloatKind.f32.format.infRung = 2139095040 := by decide
theorem inf_64 : FloatKind.f64.format.infRung = 9218868437227405312 := by decide
theorem sw_32 : FloatKind.f32.format.signWeight = 2147483648 := by decide
theorem sw_64 : FloatKind.f64.format.signWeight = 9223372036854775808 := by decide
section
variable {b2 b3 b4 d : Bool} {nan s inf sm x y : Int}
theorem addV_n : addV true true b3 b4 true nan x y sm = nan := rfl
theorem addV_e : addV true true b3 b4 false nan x y sm = x := rfl
theorem addV_x : addV true false b3 b4 d nan x y sm = x := by cases d <;> rfl
theorem addV_y : addV false true b3 b4 d nan x y sm = y := rfl
theorem addV_z : addV false false true true d nan x y sm = bits .and .u64 x y := rfl
theorem addV_s (h : (b3 && b4) = false) : addV false false b3 b4 d nan x y sm = sm := by unfold addV; rw [h]; rfl
theorem mulV_a : mulV true b2 false false nan s inf sm = IntKind.u64.wrap (s + inf) := by cases b2 <;> rfl
theorem mulV_n1 : mulV true b2 b3 true nan s inf sm = nan := by cases b2 <;> cases b3 <;> rfl
theorem mulV_b : mulV false true false b4 nan s inf sm = IntKind.u64.wrap (s + inf) := rfl
theorem mulV_n2 : mulV false true true b4 nan s inf sm = nan := rfl
theorem mulV_s : mulV false false b3 b4 nan s inf sm = sm := by cases b3 <;> cases b4 <;> rfl
theorem divV_n1 : divV true true b3 b4 nan s inf sm = nan := rfl
theorem divV_a : divV true false false b4 nan s inf sm = IntKind.u64.wrap (s + inf) := rfl
theorem divV_z : divV false true b3 false nan s inf sm = s := by cases b3 <;> rfl
theorem divV_n0 : divV false false true true nan s inf sm = nan := rfl
theorem divV_i0 : divV false false false true nan s inf sm = IntKind.u64.wrap (s + inf) := rfl
theorem divV_z0 : divV false false true false nan s inf sm = s := rfl
theorem divV_s : divV false false false false nan s inf sm = sm := rfl
end
theorem isNum_iff_32 (x : Nat) : isNum .f32 x = true ↔ rung FloatKind.f32.format x ≤ FloatKind.f32.format.infRung := by
  unfold isNum; rw [order_self_eq _ (by decide)]; simp
theorem isNum_iff_64 (x : Nat) : isNum .f64 x = true ↔ rung FloatKind.f64.format x ≤ FloatKind.f64.format.infRung := by
  unfold isNum; rw [order_self_eq _ (by decide)]; simp
theorem near_num (f : Ieee.Format) (s : Bool) (m : Nat) (i : Int) : ∃ r, r ≤ f.infRung ∧ f.nearest s m i = f.word s r := by
  by_cases h : m = 0
  · subst h
    exact ⟨0, Nat.zero_le _, by simp [Ieee.Format.nearest]⟩
  · exact ⟨_, Nat.min_le_right _ _, nearest_eq f s m i h⟩

theorem num_32 {s : Bool} {r : Nat} (h : r ≤ FloatKind.f32.format.infRung) : isNum .f32 (FloatKind.f32.format.word s r) = true := by
  rw [isNum_iff_32, word_rung _ s (Nat.lt_of_le_of_lt h FloatKind.f32.format.infRung_lt)]; exact h
theorem wr_32 {d : Ieee.Datum} (h : d.isNaN = false) : isNum .f32 (FloatKind.f32.format.write d) = true := by
  cases d with
  | nan s t => cases h
  | infinity s => exact num_32 (Nat.le_refl _)
  | number s m i =>
    obtain ⟨r, hr, e⟩ := near_num FloatKind.f32.format s m i
    show isNum .f32 (FloatKind.f32.format.nearest s m i) = true
    rw [e]; exact num_32 hr
theorem ov_32 {o : Option Ieee.Datum} (h : ∀ d, o = some d → d.isNaN = false) : outv .f32 (o.map FloatKind.f32.format.write) = match o with | none => 2143289344 | some d => (FloatKind.f32.format.write d : Int) := by
  cases o with
  | none => rfl
  | some d => show (if isNum .f32 (FloatKind.f32.format.write d) = true then _ else _) = _; rw [if_pos (wr_32 (h d rfl))]
theorem ov_add_32 {x y v : Nat} (h : FloatKind.f32.format.add x y = some v) : outv .f32 (some v) = v := by
  have h2 := h
  unfold Ieee.Format.add at h2
  obtain ⟨d, hd, hv⟩ := Option.map_eq_some_iff.1 h2
  show (if isNum .f32 v = true then _ else _) = _
  rw [if_pos]; rw [← hv]; exact wr_32 (sum_num hd)
theorem ov_mul_32 {x y v : Nat} (h : FloatKind.f32.format.mul x y = some v) : outv .f32 (some v) = v := by
  have h2 := h
  unfold Ieee.Format.mul at h2
  obtain ⟨d, hd, hv⟩ := Option.map_eq_some_iff.1 h2
  show (if isNum .f32 v = true then _ else _) = _
  rw [if_pos]; rw [← hv]; exact wr_32 (product_num hd)
theorem ov_div_32 {x y v : Nat} (h : FloatKind.f32.format.div x y = some v) : outv .f32 (some v) = v := by
  have h2 := h
  unfold Ieee.Format.div at h2
  obtain ⟨d, hd, hv⟩ := Option.map_eq_some_iff.1 h2
  show (if isNum .f32 v = true then _ else _) = _
  rw [if_pos]; rw [← hv]; exact wr_32 (quotient_num hd)
theorem ov_word_32 {s : Bool} {r : Nat} (h : r ≤ FloatKind.f32.format.infRung) : outv .f32 (some (FloatKind.f32.format.word s r)) = (FloatKind.f32.format.word s r : Int) := by
  show (if isNum .f32 (FloatKind.f32.format.word s r) = true then _ else _) = _
  rw [if_pos (num_32 h)]
theorem ov_none_32 : outv .f32 none = 2143289344 := rfl
theorem self_32 (x : Nat) (h : x < 4294967296) : FloatKind.f32.format.word (sgn FloatKind.f32.format x) (rung FloatKind.f32.format x) = x :=
  word_eq _ x (by rw [sw_32]; omega)
theorem word_32 (s : Bool) (r : Nat) : FloatKind.f32.format.word s r = (if s = true then 2147483648 else 0) + r := by
  unfold Ieee.Format.word; rw [sw_32]; cases s <;> simp
/-- The signs of two words. -/
theorem sign_xor_32 (x y : Nat) (hx : x < 4294967296) (hy : y < 4294967296) : bits .and .u64 (bits .xor .u64 (x : Int) (y : Int)) 2147483648 = (FloatKind.f32.format.word (sgn FloatKind.f32.format x ^^ sgn FloatKind.f32.format y) 0 : Int) := by
  rw [u64_xor_nat x y (by omega) (by omega)]
  have hlt : x ^^^ y < 18446744073709551616 := Nat.xor_lt_two_pow (n := 64) (by omega) (by omega)
  rw [u64_and _ _ (by omega) (by omega) (by decide) (by decide), Int.toNat_natCast, show Int.toNat 2147483648 = 2 ^ 31 by decide, sgn_and 31 (by decide) x y (by omega) (by omega), word_32]
  unfold sgn
  rw [sw_32, show (2 : Nat) ^ 31 = 2147483648 by decide]; rfl

theorem add_ref_32 (k : Nat) (hk : 900 ≤ k) (X Y : Nat) (hX : X < 4294967296) (hY : Y < 4294967296) (hx : rung FloatKind.f32.format X ≤ FloatKind.f32.format.infRung) (hy : rung FloatKind.f32.format Y ≤ FloatKind.f32.format.infRung) (w : World) :
    Calls Try.prog 72 #[.agg #[.int .i64 23, .int .i64 8], .int .u64 X, .int .u64 Y] w fun e w' => e = .returned (.int .u64 (outv .f32 (FloatKind.f32.format.add X Y))) ∧ Below w.heap.size w w' := by
  have r1 := rung32 (X : Int) (by omega)
  have r2 := rung32 (Y : Int) (by omega)
  have hsm := sum_32 k (by omega) (X : Int) (Y : Int) (by omega) (by omega) (by omega) (by omega)
  rw [Int.toNat_natCast] at r1 r2 hsm
  rw [Int.toNat_natCast] at hsm
  have c1 := self_32 X hX
  have c2 := self_32 Y hY
  obtain ⟨sm, hs, hv⟩ : ∃ sm : Int, (((((X : Int) % 2147483648 == 2139095040) || ((Y : Int) % 2147483648 == 2139095040) || ((((X : Int) % 2147483648 == 0)) && ((Y : Int) % 2147483648 == 0))) = false) → ratchetref04_Format_sum.f (k + 8) 23 8 X Y = some sm) ∧
      addV ((X : Int) % 2147483648 == 2139095040) ((Y : Int) % 2147483648 == 2139095040) ((X : Int) % 2147483648 == 0) ((Y : Int) % 2147483648 == 0) ((X : Int) != Y) 2143289344 X Y sm = outv .f32 (FloatKind.f32.format.add X Y) := by
    rw [← r1, ← r2]
    rw [inf_32] at hx hy hsm
    by_cases xi : rung FloatKind.f32.format X = 2139095040
    · have ex := read_inf FloatKind.f32.format (by decide) X (by rw [inf_32]; exact xi)
      refine ⟨0, ?_, ?_⟩
      · intro h; exfalso; rw [show (((rung FloatKind.f32.format X : Nat) : Int) == 2139095040) = true by simp; omega] at h; simp at h
      by_cases yi : rung FloatKind.f32.format Y = 2139095040
      · have ey := read_inf FloatKind.f32.format (by decide) Y (by rw [inf_32]; exact yi)
        rw [add_ii ex ey]
        rw [show (((rung FloatKind.f32.format X : Nat) : Int) == 2139095040) = true by simp; omega, show (((rung FloatKind.f32.format Y : Nat) : Int) == 2139095040) = true by simp; omega]
        by_cases st : sgn FloatKind.f32.format X = sgn FloatKind.f32.format Y
        · have e : X = Y := by rw [← c1, ← c2, st, xi, yi]
          rw [if_pos st, ov_word_32 (Nat.le_refl _), show (((X : Int) != (Y : Int)) = false) by simp; omega, inf_32, addV_e]
          rw [← xi, c1]
        · have e : X ≠ Y := fun e => st (by rw [e])
          rw [if_neg st, show (((X : Int) != (Y : Int)) = true) by simp; omega, addV_n]
          rfl
      · have ey := read_fin FloatKind.f32.format Y (by rw [inf_32]; omega)
        rw [add_if ex ey, ov_word_32 (Nat.le_refl _), inf_32]
        rw [show (((rung FloatKind.f32.format X : Nat) : Int) == 2139095040) = true by simp; omega, show (((rung FloatKind.f32.format Y : Nat) : Int) == 2139095040) = false by simp; omega, addV_x]
        rw [← xi, c1]
    · have ex := read_fin FloatKind.f32.format X (by rw [inf_32]; omega)
      have bx : (((rung FloatKind.f32.format X : Nat) : Int) == 2139095040) = false := by simp; omega
      by_cases yi : rung FloatKind.f32.format Y = 2139095040
      · have ey := read_inf FloatKind.f32.format (by decide) Y (by rw [inf_32]; exact yi)
        have bY : (((rung FloatKind.f32.format Y : Nat) : Int) == 2139095040) = true := by simp; omega
        refine ⟨0, ?_, ?_⟩
        · intro h; exfalso; rw [bx, bY] at h; simp at h
        rw [add_fi ex ey, ov_word_32 (Nat.le_refl _), inf_32]
        rw [bx, bY, addV_y, ← yi, c2]
      · have ey := read_fin FloatKind.f32.format Y (by rw [inf_32]; omega)
        have bY : (((rung FloatKind.f32.format Y : Nat) : Int) == 2139095040) = false := by simp; omega
        by_cases z : rung FloatKind.f32.format X = 0 ∧ rung FloatKind.f32.format Y = 0
        · refine ⟨0, ?_, ?_⟩
          · intro h; exfalso; rw [z.1, z.2] at h; revert h; decide
          rw [z.1, show sgf FloatKind.f32.format 0 = 0 by decide] at ex
          rw [z.2, show sgf FloatKind.f32.format 0 = 0 by decide] at ey
          rw [add_00 ex ey, ov_word_32 (Nat.zero_le _)]
          rw [bx, bY, z.1, z.2, show (((0 : Nat) : Int) == 0) = true by decide, addV_z, ← c1, ← c2, z.1, z.2]
          cases sgn FloatKind.f32.format X <;> cases sgn FloatKind.f32.format Y <;> decide
        · obtain ⟨v, ha, hb⟩ := hsm (by omega) (by omega) (by omega)
          refine ⟨v, fun _ => hb, ?_⟩
          rw [ha, ov_add_32 ha]
          rw [bx, bY, addV_s (by rw [Bool.and_eq_false_iff]; simp; omega)]
  have h := add_calls (k + 8) 23 8 X Y _ _ 2139095040 2143289344 sm _ _ _ _ _ (size32 X (by omega) (by omega)) (size32 Y (by omega) (by omega)) (by kernel_rfl) nan32 rfl rfl rfl rfl rfl (by decide) hs w
  rw [hv] at h
  exact h

theorem mul_ref_32 (k : Nat) (hk : 900 ≤ k) (X Y : Nat) (hX : X < 4294967296) (hY : Y < 4294967296) (hx : rung FloatKind.f32.format X ≤ FloatKind.f32.format.infRung) (hy : rung FloatKind.f32.format Y ≤ FloatKind.f32.format.infRung) (w : World) :
    Calls Try.prog 73 #[.agg #[.int .i64 23, .int .i64 8], .int .u64 X, .int .u64 Y] w fun e w' => e = .returned (.int .u64 (outv .f32 (FloatKind.f32.format.mul X Y))) ∧ Below w.heap.size w w' := by
  have r1 := rung32 (X : Int) (by omega)
  have r2 := rung32 (Y : Int) (by omega)
  have hsm := product_32 k (by omega) (X : Int) (Y : Int) (by omega) (by omega) (by omega) (by omega)
  rw [Int.toNat_natCast] at r1 r2 hsm
  rw [Int.toNat_natCast] at hsm
  have hsw : ∀ s : Bool, IntKind.u64.wrap ((FloatKind.f32.format.word s 0 : Int) + 2139095040) = (FloatKind.f32.format.word s 2139095040 : Int) := by intro s; cases s <;> decide
  obtain ⟨sm, hs, hv⟩ : ∃ sm : Int, ((((X : Int) % 2147483648 == 2139095040) || ((Y : Int) % 2147483648 == 2139095040)) = false → ratchetref04_Format_product.f (k + 6) 23 8 X Y = some sm) ∧
      mulV ((X : Int) % 2147483648 == 2139095040) ((Y : Int) % 2147483648 == 2139095040) ((X : Int) % 2147483648 == 0) ((Y : Int) % 2147483648 == 0) 2143289344 (bits .and .u64 (bits .xor .u64 (X : Int) (Y : Int)) 2147483648) 2139095040 sm = outv .f32 (FloatKind.f32.format.mul X Y) := by
    rw [← r1, ← r2, sign_xor_32 X Y hX hY]
    rw [inf_32] at hx hy hsm
    by_cases xi : rung FloatKind.f32.format X = 2139095040
    · have ex := read_inf FloatKind.f32.format (by decide) X (by rw [inf_32]; exact xi)
      have bx : (((rung FloatKind.f32.format X : Nat) : Int) == 2139095040) = true := by simp; omega
      have zx : (((rung FloatKind.f32.format X : Nat) : Int) == 0) = false := by simp; omega
      refine ⟨0, ?_, ?_⟩
      · intro h; exfalso; rw [bx] at h; simp at h
      by_cases yi : rung FloatKind.f32.format Y = 2139095040
      · have ey := read_inf FloatKind.f32.format (by decide) Y (by rw [inf_32]; exact yi)
        have zy : (((rung FloatKind.f32.format Y : Nat) : Int) == 0) = false := by simp; omega
        rw [mul_ii ex ey, ov_word_32 (Nat.le_refl _), inf_32, ← hsw]
        rw [bx, zx, zy, mulV_a]
      · have ey := read_fin FloatKind.f32.format Y (by rw [inf_32]; omega)
        have bY : (((rung FloatKind.f32.format Y : Nat) : Int) == 2139095040) = false := by simp; omega
        rw [mul_if ex ey]
        by_cases zy : rung FloatKind.f32.format Y = 0
        · rw [if_pos (by rw [sgf_zero]; exact zy), bx, show (((rung FloatKind.f32.format Y : Nat) : Int) == 0) = true by simp; omega, mulV_n1]
          rfl
        · rw [if_neg (by rw [sgf_zero]; exact zy), bx, zx, show (((rung FloatKind.f32.format Y : Nat) : Int) == 0) = false by simp; omega, ov_word_32 (Nat.le_refl _), inf_32, ← hsw, mulV_a]
    · have ex := read_fin FloatKind.f32.format X (by rw [inf_32]; omega)
      have bx : (((rung FloatKind.f32.format X : Nat) : Int) == 2139095040) = false := by simp; omega
      by_cases yi : rung FloatKind.f32.format Y = 2139095040
      · have ey := read_inf FloatKind.f32.format (by decide) Y (by rw [inf_32]; exact yi)
        have bY : (((rung FloatKind.f32.format Y : Nat) : Int) == 2139095040) = true := by simp; omega
        refine ⟨0, ?_, ?_⟩
        · intro h; exfalso; rw [bx, bY] at h; simp at h
        rw [mul_fi ex ey]
        by_cases zx : rung FloatKind.f32.format X = 0
        · rw [if_pos (by rw [sgf_zero]; exact zx), bx, bY, show (((rung FloatKind.f32.format X : Nat) : Int) == 0) = true by simp; omega, mulV_n2]
          rfl
        · rw [if_neg (by rw [sgf_zero]; exact zx), bx, bY, show (((rung FloatKind.f32.format X : Nat) : Int) == 0) = false by simp; omega, ov_word_32 (Nat.le_refl _), inf_32, ← hsw, mulV_b]
      · have bY : (((rung FloatKind.f32.format Y : Nat) : Int) == 2139095040) = false := by simp; omega
        obtain ⟨v, ha, hb⟩ := hsm (by omega) (by omega)
        refine ⟨v, fun _ => hb, ?_⟩
        rw [ha, ov_mul_32 ha]
        rw [bx, bY, mulV_s]
  have h := mul_calls (k + 6) 23 8 X Y _ _ 2139095040 2143289344 2147483648 sm _ _ _ _ (size32 X (by omega) (by omega)) (size32 Y (by omega) (by omega)) (by kernel_rfl) nan32 sign32 rfl rfl rfl rfl (by decide) hs w
  rw [hv] at h
  exact h

theorem div_ref_32 (k : Nat) (hk : 900 ≤ k) (X Y : Nat) (hX : X < 4294967296) (hY : Y < 4294967296) (hx : rung FloatKind.f32.format X ≤ FloatKind.f32.format.infRung) (hy : rung FloatKind.f32.format Y ≤ FloatKind.f32.format.infRung) (w : World) :
    Calls Try.prog 74 #[.agg #[.int .i64 23, .int .i64 8], .int .u64 X, .int .u64 Y] w fun e w' => e = .returned (.int .u64 (outv .f32 (FloatKind.f32.format.div X Y))) ∧ Below w.heap.size w w' := by
  have r1 := rung32 (X : Int) (by omega)
  have r2 := rung32 (Y : Int) (by omega)
  have hsm := quotient_32 k (by omega) (X : Int) (Y : Int) (by omega) (by omega) (by omega) (by omega)
  rw [Int.toNat_natCast] at r1 r2 hsm
  rw [Int.toNat_natCast] at hsm
  have hsw : ∀ s : Bool, IntKind.u64.wrap ((FloatKind.f32.format.word s 0 : Int) + 2139095040) = (FloatKind.f32.format.word s 2139095040 : Int) := by intro s; cases s <;> decide
  obtain ⟨sm, hs, hv⟩ : ∃ sm : Int, ((((X : Int) % 2147483648 == 2139095040) || ((Y : Int) % 2147483648 == 2139095040) || ((X : Int) % 2147483648 == 0) || ((Y : Int) % 2147483648 == 0)) = false → ratchetref04_Format_quotient.f (k + 8) 23 8 X Y = some sm) ∧
      divV ((X : Int) % 2147483648 == 2139095040) ((Y : Int) % 2147483648 == 2139095040) ((X : Int) % 2147483648 == 0) ((Y : Int) % 2147483648 == 0) 2143289344 (bits .and .u64 (bits .xor .u64 (X : Int) (Y : Int)) 2147483648) 2139095040 sm = outv .f32 (FloatKind.f32.format.div X Y) := by
    rw [← r1, ← r2, sign_xor_32 X Y hX hY]
    rw [inf_32] at hx hy hsm
    by_cases xi : rung FloatKind.f32.format X = 2139095040
    · have ex := read_inf FloatKind.f32.format (by decide) X (by rw [inf_32]; exact xi)
      have bx : (((rung FloatKind.f32.format X : Nat) : Int) == 2139095040) = true := by simp; omega
      have zx : (((rung FloatKind.f32.format X : Nat) : Int) == 0) = false := by simp; omega
      refine ⟨0, ?_, ?_⟩
      · intro h; exfalso; rw [bx] at h; simp at h
      by_cases yi : rung FloatKind.f32.format Y = 2139095040
      · have ey := read_inf FloatKind.f32.format (by decide) Y (by rw [inf_32]; exact yi)
        have bY : (((rung FloatKind.f32.format Y : Nat) : Int) == 2139095040) = true := by simp; omega
        rw [div_ii ex ey, bx, bY, divV_n1]
        rfl
      · have ey := read_fin FloatKind.f32.format Y (by rw [inf_32]; omega)
        have bY : (((rung FloatKind.f32.format Y : Nat) : Int) == 2139095040) = false := by simp; omega
        rw [div_if ex ey, ov_word_32 (Nat.le_refl _), inf_32, ← hsw]
        rw [bx, zx, bY, divV_a]
    · have ex := read_fin FloatKind.f32.format X (by rw [inf_32]; omega)
      have bx : (((rung FloatKind.f32.format X : Nat) : Int) == 2139095040) = false := by simp; omega
      by_cases yi : rung FloatKind.f32.format Y = 2139095040
      · have ey := read_inf FloatKind.f32.format (by decide) Y (by rw [inf_32]; exact yi)
        have bY : (((rung FloatKind.f32.format Y : Nat) : Int) == 2139095040) = true := by simp; omega
        have zy : (((rung FloatKind.f32.format Y : Nat) : Int) == 0) = false := by simp; omega
        refine ⟨0, ?_, ?_⟩
        · intro h; exfalso; rw [bx, bY] at h; simp at h
        rw [div_fi ex ey, ov_word_32 (Nat.zero_le _)]
        rw [bx, bY, zy, divV_z]
      · have ey := read_fin FloatKind.f32.format Y (by rw [inf_32]; omega)
        have bY : (((rung FloatKind.f32.format Y : Nat) : Int) == 2139095040) = false := by simp; omega
        by_cases zy : rung FloatKind.f32.format Y = 0
        · have zyb : (((rung FloatKind.f32.format Y : Nat) : Int) == 0) = true := by simp; omega
          refine ⟨0, ?_, ?_⟩
          · intro h; exfalso; rw [zyb] at h; simp at h
          rw [zy, show sgf FloatKind.f32.format 0 = 0 by decide] at ey
          rw [div_f0 ex ey]
          by_cases zx : rung FloatKind.f32.format X = 0
          · rw [if_pos (by rw [sgf_zero]; exact zx), bx, bY, zyb, show (((rung FloatKind.f32.format X : Nat) : Int) == 0) = true by simp; omega, divV_n0]
            rfl
          · rw [if_neg (by rw [sgf_zero]; exact zx), bx, bY, zyb, show (((rung FloatKind.f32.format X : Nat) : Int) == 0) = false by simp; omega, ov_word_32 (Nat.le_refl _), inf_32, ← hsw, divV_i0]
        · have zyb : (((rung FloatKind.f32.format Y : Nat) : Int) == 0) = false := by simp; omega
          by_cases zx : rung FloatKind.f32.format X = 0
          · have zxb : (((rung FloatKind.f32.format X : Nat) : Int) == 0) = true := by simp; omega
            refine ⟨0, ?_, ?_⟩
            · intro h; exfalso; rw [zxb] at h; simp at h
            rw [zx, show sgf FloatKind.f32.format 0 = 0 by decide] at ex
            rw [div_0f ex ey (by rw [Ne, sgf_zero]; exact zy), ov_word_32 (Nat.zero_le _)]
            rw [bx, bY, zyb, zxb, divV_z0]
          · have zxb : (((rung FloatKind.f32.format X : Nat) : Int) == 0) = false := by simp; omega
            obtain ⟨v, ha, hb⟩ := hsm (by omega) (by omega) zx zy
            refine ⟨v, fun _ => hb, ?_⟩
            rw [ha, ov_div_32 ha]
            rw [bx, bY, zyb, zxb, divV_s]
  have h := div_calls (k + 8) 23 8 X Y _ _ 2139095040 2143289344 2147483648 sm _ _ _ _ (size32 X (by omega) (by omega)) (size32 Y (by omega) (by omega)) (by kernel_rfl) nan32 sign32 rfl rfl rfl rfl (by decide) hs w
  rw [hv] at h
  exact h

theorem num_64 {s : Bool} {r : Nat} (h : r ≤ FloatKind.f64.format.infRung) : isNum .f64 (FloatKind.f64.format.word s r) = true := by
  rw [isNum_iff_64, word_rung _ s (Nat.lt_of_le_of_lt h FloatKind.f64.format.infRung_lt)]; exact h
theorem wr_64 {d : Ieee.Datum} (h : d.isNaN = false) : isNum .f64 (FloatKind.f64.format.write d) = true := by
  cases d with
  | nan s t => cases h
  | infinity s => exact num_64 (Nat.le_refl _)
  | number s m i =>
    obtain ⟨r, hr, e⟩ := near_num FloatKind.f64.format s m i
    show isNum .f64 (FloatKind.f64.format.nearest s m i) = true
    rw [e]; exact num_64 hr
theorem ov_64 {o : Option Ieee.Datum} (h : ∀ d, o = some d → d.isNaN = false) : outv .f64 (o.map FloatKind.f64.format.write) = match o with | none => 9221120237041090560 | some d => (FloatKind.f64.format.write d : Int) := by
  cases o with
  | none => rfl
  | some d => show (if isNum .f64 (FloatKind.f64.format.write d) = true then _ else _) = _; rw [if_pos (wr_64 (h d rfl))]
theorem ov_add_64 {x y v : Nat} (h : FloatKind.f64.format.add x y = some v) : outv .f64 (some v) = v := by
  have h2 := h
  unfold Ieee.Format.add at h2
  obtain ⟨d, hd, hv⟩ := Option.map_eq_some_iff.1 h2
  show (if isNum .f64 v = true then _ else _) = _
  rw [if_pos]; rw [← hv]; exact wr_64 (sum_num hd)
theorem ov_mul_64 {x y v : Nat} (h : FloatKind.f64.format.mul x y = some v) : outv .f64 (some v) = v := by
  have h2 := h
  unfold Ieee.Format.mul at h2
  obtain ⟨d, hd, hv⟩ := Option.map_eq_some_iff.1 h2
  show (if isNum .f64 v = true then _ else _) = _
  rw [if_pos]; rw [← hv]; exact wr_64 (product_num hd)
theorem ov_div_64 {x y v : Nat} (h : FloatKind.f64.format.div x y = some v) : outv .f64 (some v) = v := by
  have h2 := h
  unfold Ieee.Format.div at h2
  obtain ⟨d, hd, hv⟩ := Option.map_eq_some_iff.1 h2
  show (if isNum .f64 v = true then _ else _) = _
  rw [if_pos]; rw [← hv]; exact wr_64 (quotient_num hd)
theorem ov_word_64 {s : Bool} {r : Nat} (h : r ≤ FloatKind.f64.format.infRung) : outv .f64 (some (FloatKind.f64.format.word s r)) = (FloatKind.f64.format.word s r : Int) := by
  show (if isNum .f64 (FloatKind.f64.format.word s r) = true then _ else _) = _
  rw [if_pos (num_64 h)]
theorem ov_none_64 : outv .f64 none = 9221120237041090560 := rfl
theorem self_64 (x : Nat) (h : x < 18446744073709551616) : FloatKind.f64.format.word (sgn FloatKind.f64.format x) (rung FloatKind.f64.format x) = x :=
  word_eq _ x (by rw [sw_64]; omega)
theorem word_64 (s : Bool) (r : Nat) : FloatKind.f64.format.word s r = (if s = true then 9223372036854775808 else 0) + r := by
  unfold Ieee.Format.word; rw [sw_64]; cases s <;> simp
/-- The signs of two words. -/
theorem sign_xor_64 (x y : Nat) (hx : x < 18446744073709551616) (hy : y < 18446744073709551616) : bits .and .u64 (bits .xor .u64 (x : Int) (y : Int)) 9223372036854775808 = (FloatKind.f64.format.word (sgn FloatKind.f64.format x ^^ sgn FloatKind.f64.format y) 0 : Int) := by
  rw [u64_xor_nat x y (by omega) (by omega)]
  have hlt : x ^^^ y < 18446744073709551616 := Nat.xor_lt_two_pow (n := 64) (by omega) (by omega)
  rw [u64_and _ _ (by omega) (by omega) (by decide) (by decide), Int.toNat_natCast, show Int.toNat 9223372036854775808 = 2 ^ 63 by decide, sgn_and 63 (by decide) x y (by omega) (by omega), word_64]
  unfold sgn
  rw [sw_64, show (2 : Nat) ^ 63 = 9223372036854775808 by decide]; rfl

theorem add_ref_64 (k : Nat) (hk : 900 ≤ k) (X Y : Nat) (hX : X < 18446744073709551616) (hY : Y < 18446744073709551616) (hx : rung FloatKind.f64.format X ≤ FloatKind.f64.format.infRung) (hy : rung FloatKind.f64.format Y ≤ FloatKind.f64.format.infRung) (w : World) :
    Calls Try.prog 72 #[.agg #[.int .i64 52, .int .i64 11], .int .u64 X, .int .u64 Y] w fun e w' => e = .returned (.int .u64 (outv .f64 (FloatKind.f64.format.add X Y))) ∧ Below w.heap.size w w' := by
  have r1 := rung64 (X : Int) (by omega)
  have r2 := rung64 (Y : Int) (by omega)
  have hsm := sum_64 k (by omega) (X : Int) (Y : Int) (by omega) (by omega) (by omega) (by omega)
  rw [Int.toNat_natCast] at r1 r2 hsm
  rw [Int.toNat_natCast] at hsm
  have c1 := self_64 X hX
  have c2 := self_64 Y hY
  obtain ⟨sm, hs, hv⟩ : ∃ sm : Int, (((((X : Int) % 9223372036854775808 == 9218868437227405312) || ((Y : Int) % 9223372036854775808 == 9218868437227405312) || ((((X : Int) % 9223372036854775808 == 0)) && ((Y : Int) % 9223372036854775808 == 0))) = false) → ratchetref04_Format_sum.f (k + 8) 52 11 X Y = some sm) ∧
      addV ((X : Int) % 9223372036854775808 == 9218868437227405312) ((Y : Int) % 9223372036854775808 == 9218868437227405312) ((X : Int) % 9223372036854775808 == 0) ((Y : Int) % 9223372036854775808 == 0) ((X : Int) != Y) 9221120237041090560 X Y sm = outv .f64 (FloatKind.f64.format.add X Y) := by
    rw [← r1, ← r2]
    rw [inf_64] at hx hy hsm
    by_cases xi : rung FloatKind.f64.format X = 9218868437227405312
    · have ex := read_inf FloatKind.f64.format (by decide) X (by rw [inf_64]; exact xi)
      refine ⟨0, ?_, ?_⟩
      · intro h; exfalso; rw [show (((rung FloatKind.f64.format X : Nat) : Int) == 9218868437227405312) = true by simp; omega] at h; simp at h
      by_cases yi : rung FloatKind.f64.format Y = 9218868437227405312
      · have ey := read_inf FloatKind.f64.format (by decide) Y (by rw [inf_64]; exact yi)
        rw [add_ii ex ey]
        rw [show (((rung FloatKind.f64.format X : Nat) : Int) == 9218868437227405312) = true by simp; omega, show (((rung FloatKind.f64.format Y : Nat) : Int) == 9218868437227405312) = true by simp; omega]
        by_cases st : sgn FloatKind.f64.format X = sgn FloatKind.f64.format Y
        · have e : X = Y := by rw [← c1, ← c2, st, xi, yi]
          rw [if_pos st, ov_word_64 (Nat.le_refl _), show (((X : Int) != (Y : Int)) = false) by simp; omega, inf_64, addV_e]
          rw [← xi, c1]
        · have e : X ≠ Y := fun e => st (by rw [e])
          rw [if_neg st, show (((X : Int) != (Y : Int)) = true) by simp; omega, addV_n]
          rfl
      · have ey := read_fin FloatKind.f64.format Y (by rw [inf_64]; omega)
        rw [add_if ex ey, ov_word_64 (Nat.le_refl _), inf_64]
        rw [show (((rung FloatKind.f64.format X : Nat) : Int) == 9218868437227405312) = true by simp; omega, show (((rung FloatKind.f64.format Y : Nat) : Int) == 9218868437227405312) = false by simp; omega, addV_x]
        rw [← xi, c1]
    · have ex := read_fin FloatKind.f64.format X (by rw [inf_64]; omega)
      have bx : (((rung FloatKind.f64.format X : Nat) : Int) == 9218868437227405312) = false := by simp; omega
      by_cases yi : rung FloatKind.f64.format Y = 9218868437227405312
      · have ey := read_inf FloatKind.f64.format (by decide) Y (by rw [inf_64]; exact yi)
        have bY : (((rung FloatKind.f64.format Y : Nat) : Int) == 9218868437227405312) = true := by simp; omega
        refine ⟨0, ?_, ?_⟩
        · intro h; exfalso; rw [bx, bY] at h; simp at h
        rw [add_fi ex ey, ov_word_64 (Nat.le_refl _), inf_64]
        rw [bx, bY, addV_y, ← yi, c2]
      · have ey := read_fin FloatKind.f64.format Y (by rw [inf_64]; omega)
        have bY : (((rung FloatKind.f64.format Y : Nat) : Int) == 9218868437227405312) = false := by simp; omega
        by_cases z : rung FloatKind.f64.format X = 0 ∧ rung FloatKind.f64.format Y = 0
        · refine ⟨0, ?_, ?_⟩
          · intro h; exfalso; rw [z.1, z.2] at h; revert h; decide
          rw [z.1, show sgf FloatKind.f64.format 0 = 0 by decide] at ex
          rw [z.2, show sgf FloatKind.f64.format 0 = 0 by decide] at ey
          rw [add_00 ex ey, ov_word_64 (Nat.zero_le _)]
          rw [bx, bY, z.1, z.2, show (((0 : Nat) : Int) == 0) = true by decide, addV_z, ← c1, ← c2, z.1, z.2]
          cases sgn FloatKind.f64.format X <;> cases sgn FloatKind.f64.format Y <;> decide
        · obtain ⟨v, ha, hb⟩ := hsm (by omega) (by omega) (by omega)
          refine ⟨v, fun _ => hb, ?_⟩
          rw [ha, ov_add_64 ha]
          rw [bx, bY, addV_s (by rw [Bool.and_eq_false_iff]; simp; omega)]
  have h := add_calls (k + 8) 52 11 X Y _ _ 9218868437227405312 9221120237041090560 sm _ _ _ _ _ (size64 X (by omega) (by omega)) (size64 Y (by omega) (by omega)) (by kernel_rfl) nan64 rfl rfl rfl rfl rfl (by decide) hs w
  rw [hv] at h
  exact h

theorem mul_ref_64 (k : Nat) (hk : 900 ≤ k) (X Y : Nat) (hX : X < 18446744073709551616) (hY : Y < 18446744073709551616) (hx : rung FloatKind.f64.format X ≤ FloatKind.f64.format.infRung) (hy : rung FloatKind.f64.format Y ≤ FloatKind.f64.format.infRung) (w : World) :
    Calls Try.prog 73 #[.agg #[.int .i64 52, .int .i64 11], .int .u64 X, .int .u64 Y] w fun e w' => e = .returned (.int .u64 (outv .f64 (FloatKind.f64.format.mul X Y))) ∧ Below w.heap.size w w' := by
  have r1 := rung64 (X : Int) (by omega)
  have r2 := rung64 (Y : Int) (by omega)
  have hsm := product_64 k (by omega) (X : Int) (Y : Int) (by omega) (by omega) (by omega) (by omega)
  rw [Int.toNat_natCast] at r1 r2 hsm
  rw [Int.toNat_natCast] at hsm
  have hsw : ∀ s : Bool, IntKind.u64.wrap ((FloatKind.f64.format.word s 0 : Int) + 9218868437227405312) = (FloatKind.f64.format.word s 9218868437227405312 : Int) := by intro s; cases s <;> decide
  obtain ⟨sm, hs, hv⟩ : ∃ sm : Int, ((((X : Int) % 9223372036854775808 == 9218868437227405312) || ((Y : Int) % 9223372036854775808 == 9218868437227405312)) = false → ratchetref04_Format_product.f (k + 6) 52 11 X Y = some sm) ∧
      mulV ((X : Int) % 9223372036854775808 == 9218868437227405312) ((Y : Int) % 9223372036854775808 == 9218868437227405312) ((X : Int) % 9223372036854775808 == 0) ((Y : Int) % 9223372036854775808 == 0) 9221120237041090560 (bits .and .u64 (bits .xor .u64 (X : Int) (Y : Int)) 9223372036854775808) 9218868437227405312 sm = outv .f64 (FloatKind.f64.format.mul X Y) := by
    rw [← r1, ← r2, sign_xor_64 X Y hX hY]
    rw [inf_64] at hx hy hsm
    by_cases xi : rung FloatKind.f64.format X = 9218868437227405312
    · have ex := read_inf FloatKind.f64.format (by decide) X (by rw [inf_64]; exact xi)
      have bx : (((rung FloatKind.f64.format X : Nat) : Int) == 9218868437227405312) = true := by simp; omega
      have zx : (((rung FloatKind.f64.format X : Nat) : Int) == 0) = false := by simp; omega
      refine ⟨0, ?_, ?_⟩
      · intro h; exfalso; rw [bx] at h; simp at h
      by_cases yi : rung FloatKind.f64.format Y = 9218868437227405312
      · have ey := read_inf FloatKind.f64.format (by decide) Y (by rw [inf_64]; exact yi)
        have zy : (((rung FloatKind.f64.format Y : Nat) : Int) == 0) = false := by simp; omega
        rw [mul_ii ex ey, ov_word_64 (Nat.le_refl _), inf_64, ← hsw]
        rw [bx, zx, zy, mulV_a]
      · have ey := read_fin FloatKind.f64.format Y (by rw [inf_64]; omega)
        have bY : (((rung FloatKind.f64.format Y : Nat) : Int) == 9218868437227405312) = false := by simp; omega
        rw [mul_if ex ey]
        by_cases zy : rung FloatKind.f64.format Y = 0
        · rw [if_pos (by rw [sgf_zero]; exact zy), bx, show (((rung FloatKind.f64.format Y : Nat) : Int) == 0) = true by simp; omega, mulV_n1]
          rfl
        · rw [if_neg (by rw [sgf_zero]; exact zy), bx, zx, show (((rung FloatKind.f64.format Y : Nat) : Int) == 0) = false by simp; omega, ov_word_64 (Nat.le_refl _), inf_64, ← hsw, mulV_a]
    · have ex := read_fin FloatKind.f64.format X (by rw [inf_64]; omega)
      have bx : (((rung FloatKind.f64.format X : Nat) : Int) == 9218868437227405312) = false := by simp; omega
      by_cases yi : rung FloatKind.f64.format Y = 9218868437227405312
      · have ey := read_inf FloatKind.f64.format (by decide) Y (by rw [inf_64]; exact yi)
        have bY : (((rung FloatKind.f64.format Y : Nat) : Int) == 9218868437227405312) = true := by simp; omega
        refine ⟨0, ?_, ?_⟩
        · intro h; exfalso; rw [bx, bY] at h; simp at h
        rw [mul_fi ex ey]
        by_cases zx : rung FloatKind.f64.format X = 0
        · rw [if_pos (by rw [sgf_zero]; exact zx), bx, bY, show (((rung FloatKind.f64.format X : Nat) : Int) == 0) = true by simp; omega, mulV_n2]
          rfl
        · rw [if_neg (by rw [sgf_zero]; exact zx), bx, bY, show (((rung FloatKind.f64.format X : Nat) : Int) == 0) = false by simp; omega, ov_word_64 (Nat.le_refl _), inf_64, ← hsw, mulV_b]
      · have bY : (((rung FloatKind.f64.format Y : Nat) : Int) == 9218868437227405312) = false := by simp; omega
        obtain ⟨v, ha, hb⟩ := hsm (by omega) (by omega)
        refine ⟨v, fun _ => hb, ?_⟩
        rw [ha, ov_mul_64 ha]
        rw [bx, bY, mulV_s]
  have h := mul_calls (k + 6) 52 11 X Y _ _ 9218868437227405312 9221120237041090560 9223372036854775808 sm _ _ _ _ (size64 X (by omega) (by omega)) (size64 Y (by omega) (by omega)) (by kernel_rfl) nan64 sign64 rfl rfl rfl rfl (by decide) hs w
  rw [hv] at h
  exact h

theorem div_ref_64 (k : Nat) (hk : 900 ≤ k) (X Y : Nat) (hX : X < 18446744073709551616) (hY : Y < 18446744073709551616) (hx : rung FloatKind.f64.format X ≤ FloatKind.f64.format.infRung) (hy : rung FloatKind.f64.format Y ≤ FloatKind.f64.format.infRung) (w : World) :
    Calls Try.prog 74 #[.agg #[.int .i64 52, .int .i64 11], .int .u64 X, .int .u64 Y] w fun e w' => e = .returned (.int .u64 (outv .f64 (FloatKind.f64.format.div X Y))) ∧ Below w.heap.size w w' := by
  have r1 := rung64 (X : Int) (by omega)
  have r2 := rung64 (Y : Int) (by omega)
  have hsm := quotient_64 k (by omega) (X : Int) (Y : Int) (by omega) (by omega) (by omega) (by omega)
  rw [Int.toNat_natCast] at r1 r2 hsm
  rw [Int.toNat_natCast] at hsm
  have hsw : ∀ s : Bool, IntKind.u64.wrap ((FloatKind.f64.format.word s 0 : Int) + 9218868437227405312) = (FloatKind.f64.format.word s 9218868437227405312 : Int) := by intro s; cases s <;> decide
  obtain ⟨sm, hs, hv⟩ : ∃ sm : Int, ((((X : Int) % 9223372036854775808 == 9218868437227405312) || ((Y : Int) % 9223372036854775808 == 9218868437227405312) || ((X : Int) % 9223372036854775808 == 0) || ((Y : Int) % 9223372036854775808 == 0)) = false → ratchetref04_Format_quotient.f (k + 8) 52 11 X Y = some sm) ∧
      divV ((X : Int) % 9223372036854775808 == 9218868437227405312) ((Y : Int) % 9223372036854775808 == 9218868437227405312) ((X : Int) % 9223372036854775808 == 0) ((Y : Int) % 9223372036854775808 == 0) 9221120237041090560 (bits .and .u64 (bits .xor .u64 (X : Int) (Y : Int)) 9223372036854775808) 9218868437227405312 sm = outv .f64 (FloatKind.f64.format.div X Y) := by
    rw [← r1, ← r2, sign_xor_64 X Y hX hY]
    rw [inf_64] at hx hy hsm
    by_cases xi : rung FloatKind.f64.format X = 9218868437227405312
    · have ex := read_inf FloatKind.f64.format (by decide) X (by rw [inf_64]; exact xi)
      have bx : (((rung FloatKind.f64.format X : Nat) : Int) == 9218868437227405312) = true := by simp; omega
      have zx : (((rung FloatKind.f64.format X : Nat) : Int) == 0) = false := by simp; omega
      refine ⟨0, ?_, ?_⟩
      · intro h; exfalso; rw [bx] at h; simp at h
      by_cases yi : rung FloatKind.f64.format Y = 9218868437227405312
      · have ey := read_inf FloatKind.f64.format (by decide) Y (by rw [inf_64]; exact yi)
        have bY : (((rung FloatKind.f64.format Y : Nat) : Int) == 9218868437227405312) = true := by simp; omega
        rw [div_ii ex ey, bx, bY, divV_n1]
        rfl
      · have ey := read_fin FloatKind.f64.format Y (by rw [inf_64]; omega)
        have bY : (((rung FloatKind.f64.format Y : Nat) : Int) == 9218868437227405312) = false := by simp; omega
        rw [div_if ex ey, ov_word_64 (Nat.le_refl _), inf_64, ← hsw]
        rw [bx, zx, bY, divV_a]
    · have ex := read_fin FloatKind.f64.format X (by rw [inf_64]; omega)
      have bx : (((rung FloatKind.f64.format X : Nat) : Int) == 9218868437227405312) = false := by simp; omega
      by_cases yi : rung FloatKind.f64.format Y = 9218868437227405312
      · have ey := read_inf FloatKind.f64.format (by decide) Y (by rw [inf_64]; exact yi)
        have bY : (((rung FloatKind.f64.format Y : Nat) : Int) == 9218868437227405312) = true := by simp; omega
        have zy : (((rung FloatKind.f64.format Y : Nat) : Int) == 0) = false := by simp; omega
        refine ⟨0, ?_, ?_⟩
        · intro h; exfalso; rw [bx, bY] at h; simp at h
        rw [div_fi ex ey, ov_word_64 (Nat.zero_le _)]
        rw [bx, bY, zy, divV_z]
      · have ey := read_fin FloatKind.f64.format Y (by rw [inf_64]; omega)
        have bY : (((rung FloatKind.f64.format Y : Nat) : Int) == 9218868437227405312) = false := by simp; omega
        by_cases zy : rung FloatKind.f64.format Y = 0
        · have zyb : (((rung FloatKind.f64.format Y : Nat) : Int) == 0) = true := by simp; omega
          refine ⟨0, ?_, ?_⟩
          · intro h; exfalso; rw [zyb] at h; simp at h
          rw [zy, show sgf FloatKind.f64.format 0 = 0 by decide] at ey
          rw [div_f0 ex ey]
          by_cases zx : rung FloatKind.f64.format X = 0
          · rw [if_pos (by rw [sgf_zero]; exact zx), bx, bY, zyb, show (((rung FloatKind.f64.format X : Nat) : Int) == 0) = true by simp; omega, divV_n0]
            rfl
          · rw [if_neg (by rw [sgf_zero]; exact zx), bx, bY, zyb, show (((rung FloatKind.f64.format X : Nat) : Int) == 0) = false by simp; omega, ov_word_64 (Nat.le_refl _), inf_64, ← hsw, divV_i0]
        · have zyb : (((rung FloatKind.f64.format Y : Nat) : Int) == 0) = false := by simp; omega
          by_cases zx : rung FloatKind.f64.format X = 0
          · have zxb : (((rung FloatKind.f64.format X : Nat) : Int) == 0) = true := by simp; omega
            refine ⟨0, ?_, ?_⟩
            · intro h; exfalso; rw [zxb] at h; simp at h
            rw [zx, show sgf FloatKind.f64.format 0 = 0 by decide] at ex
            rw [div_0f ex ey (by rw [Ne, sgf_zero]; exact zy), ov_word_64 (Nat.zero_le _)]
            rw [bx, bY, zyb, zxb, divV_z0]
          · have zxb : (((rung FloatKind.f64.format X : Nat) : Int) == 0) = false := by simp; omega
            obtain ⟨v, ha, hb⟩ := hsm (by omega) (by omega) zx zy
            refine ⟨v, fun _ => hb, ?_⟩
            rw [ha, ov_div_64 ha]
            rw [bx, bY, zyb, zxb, divV_s]
  have h := div_calls (k + 8) 52 11 X Y _ _ 9218868437227405312 9221120237041090560 9223372036854775808 sm _ _ _ _ (size64 X (by omega) (by omega)) (size64 Y (by omega) (by omega)) (by kernel_rfl) nan64 sign64 rfl rfl rfl rfl (by decide) hs w
  rw [hv] at h
  exact h
end Go.Proofs.Ytapfapngcncaeaa.QF
