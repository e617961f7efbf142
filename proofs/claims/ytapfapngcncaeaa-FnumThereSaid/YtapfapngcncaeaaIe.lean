/- Plain facts on the model's IEEE words: what is read of a word; which words are NaNs; how two words stand to each other. -/
import Derived.Laws.FloatArith
import Derived.Laws.NewFold
namespace Go.Proofs.Ytapfapngcncaeaa.Ie
open Ieee

theorem sign_pos (f : Format) : 0 < f.signWeight := Nat.two_pow_pos _
theorem binade_pos (f : Format) : 0 < f.binade := Nat.two_pow_pos _

/-- What is read of a sign and a rung. -/
def unword (f : Format) (neg : Bool) (rung : Nat) : Datum :=
  if rung < f.binade then .number neg rung f.leastPlace
  else if rung < f.infRung then .number neg (f.binade + rung % f.binade) (f.leastPlace + (rung / f.binade - 1 : Nat))
  else if rung = f.infRung then .infinity neg
  else .nan neg (rung - f.infRung)

def sgn (f : Format) (x : Nat) : Bool := x / f.signWeight % 2 == 1
def rung (f : Format) (x : Nat) : Nat := x % f.signWeight

theorem read_eq (f : Format) (x : Nat) : f.read x = unword f (sgn f x) (rung f x) := rfl

theorem word_sgn (f : Format) (neg : Bool) {r : Nat} (h : r < f.signWeight) : sgn f (f.word neg r) = neg := by
  have hp := sign_pos f
  unfold sgn Format.word
  cases neg
  · simp [Nat.div_eq_of_lt h]
  · simp only [if_true]
    rw [Nat.add_div_left _ hp, Nat.div_eq_of_lt h]; rfl
theorem word_rung (f : Format) (neg : Bool) {r : Nat} (h : r < f.signWeight) : rung f (f.word neg r) = r := by
  unfold rung Format.word
  cases neg
  · simp [Nat.mod_eq_of_lt h]
  · simp [Nat.add_mod_left, Nat.mod_eq_of_lt h]

theorem inf_ge (f : Format) (hf : 1 ≤ f.exponentBits) : f.binade ≤ f.infRung := by
  unfold Format.infRung
  have : 1 ≤ 2 ^ f.exponentBits - 1 := by
    have := Nat.pow_le_pow_right (n := 2) (by decide) hf
    omega
  have := Nat.mul_le_mul_right f.binade this
  omega

theorem unword_nan (f : Format) (hf : 1 ≤ f.exponentBits) (neg : Bool) (r : Nat) : (unword f neg r).isNaN = decide (f.infRung < r) := by
  have hb := inf_ge f hf
  unfold unword
  split
  · rename_i h
    simp [Datum.isNaN]; omega
  · split
    · rename_i h; simp [Datum.isNaN]; omega
    · split
      · rename_i h; simp [Datum.isNaN]; omega
      · rename_i h; simp [Datum.isNaN]; omega

theorem read_nan (f : Format) (hf : 1 ≤ f.exponentBits) (x : Nat) : (f.read x).isNaN = decide (f.infRung < rung f x) := by
  rw [read_eq, unword_nan f hf]

theorem order_self (d : Datum) : d.order d = if d.isNaN then none else some .eq := by
  cases d with
  | nan s t => rfl
  | infinity s => cases s <;> rfl
  | number s m i => simp [Datum.order, Datum.isNaN, Std.ReflCmp.compare_self]

theorem order_self_eq (f : Format) (hf : 1 ≤ f.exponentBits) (x : Nat) : (f.order x x == some .eq) = decide (rung f x ≤ f.infRung) := by
  unfold Format.order
  rw [order_self, read_nan f hf]
  by_cases h : f.infRung < rung f x
  · simp [h]
  · simp [h]; omega

/-! ### how two words stand to each other -/
/-- A finite rung's magnitude, in units of the least place. -/
def mag (f : Format) (r : Nat) : Nat := if r < f.binade then r else (f.binade + r % f.binade) * 2 ^ (r / f.binade - 1)

theorem mag_bounds (f : Format) (r : Nat) (h : f.binade ≤ r) : f.binade * 2 ^ (r / f.binade - 1) ≤ mag f r ∧ mag f r < f.binade * 2 ^ (r / f.binade) := by
  have hp := binade_pos f
  unfold mag
  rw [if_neg (by omega)]
  have hq : 1 ≤ r / f.binade := (Nat.le_div_iff_mul_le hp).2 (by omega)
  have ht : r % f.binade < f.binade := Nat.mod_lt _ hp
  have e : (2 : Nat) ^ (r / f.binade) = 2 * 2 ^ (r / f.binade - 1) := by
    rw [← Nat.pow_succ']; congr 1; omega
  constructor
  · exact Nat.mul_le_mul_right _ (by omega)
  · rw [e, ← Nat.mul_assoc]
    exact Nat.mul_lt_mul_of_pos_right (by omega) (Nat.two_pow_pos _)

theorem mag_lt (f : Format) {r s : Nat} (h : r < s) : mag f r < mag f s := by
  have hp := binade_pos f
  rcases Nat.lt_or_ge s f.binade with hs | hs
  · unfold mag; rw [if_pos (by omega), if_pos hs]; exact h
  · rcases Nat.lt_or_ge r f.binade with hr | hr
    · have := (mag_bounds f s hs).1
      have h1 : 1 ≤ 2 ^ (s / f.binade - 1) := Nat.one_le_two_pow
      have := Nat.mul_le_mul_left f.binade h1
      have e : mag f r = r := by unfold mag; rw [if_pos hr]
      omega
    · have hle : r / f.binade ≤ s / f.binade := Nat.div_le_div_right (by omega)
      rcases Nat.lt_or_ge (r / f.binade) (s / f.binade) with hq | hq
      · have h1 := (mag_bounds f r hr).2
        have h2 := (mag_bounds f s hs).1
        have h3 : (2 : Nat) ^ (r / f.binade) ≤ 2 ^ (s / f.binade - 1) := Nat.pow_le_pow_right (by decide) (by omega)
        have := Nat.mul_le_mul_left f.binade h3
        omega
      · have e : r / f.binade = s / f.binade := by omega
        unfold mag
        rw [if_neg (by omega), if_neg (by omega), e]
        have d1 := Nat.div_add_mod r f.binade
        have d2 := Nat.div_add_mod s f.binade
        rw [e] at d1
        exact Nat.mul_lt_mul_of_pos_right (by omega) (Nat.two_pow_pos _)

theorem mag_le (f : Format) {r s : Nat} (h : r ≤ s) : mag f r ≤ mag f s := by
  rcases Nat.lt_or_ge r s with h1 | h1
  · exact Nat.le_of_lt (mag_lt f h1)
  · have : r = s := by omega
    subst this; exact Nat.le_refl _
theorem mag_lt_iff (f : Format) (r s : Nat) : mag f r < mag f s ↔ r < s := by
  constructor
  · intro h
    rcases Nat.lt_or_ge r s with h1 | h1
    · exact h1
    · have := mag_le f h1; omega
  · exact mag_lt f

/-- A finite word as a number of units of the least place. -/
def sig (neg : Bool) (m : Nat) : Int := if neg then -(m : Int) else m

theorem unword_fin (f : Format) (neg : Bool) (r : Nat) (h : r < f.infRung) :
    ∃ (m e : Nat), unword f neg r = .number neg m (f.leastPlace + e) ∧ m * 2 ^ e = mag f r := by
  unfold unword mag
  by_cases hb : r < f.binade
  · rw [if_pos hb, if_pos hb]
    exact ⟨r, 0, by simp, by simp⟩
  · rw [if_neg hb, if_pos h, if_neg hb]
    exact ⟨_, _, rfl, rfl⟩

theorem compare_mul (a b : Int) (c : Int) (hc : 0 < c) : compare a b = compare (a * c) (b * c) := by
  rw [Int.compare_eq_ite_lt, Int.compare_eq_ite_lt]
  have h1 : a * c < b * c ↔ a < b := Int.mul_lt_mul_right hc
  have h2 : b * c < a * c ↔ b < a := Int.mul_lt_mul_right hc
  simp only [h1, h2]

theorem signed_mul (s : Bool) (m u d : Nat) : signed s m u * ((2 ^ d : Nat) : Int) = sig s (m * 2 ^ (u + d)) := by
  unfold signed sig
  have e : m * 2 ^ (u + d) = (m <<< u) * 2 ^ d := by rw [Nat.shiftLeft_eq, Nat.pow_add, Nat.mul_assoc]
  rw [e]
  cases s
  · simp only [Bool.false_eq_true, if_false]; exact (Int.natCast_mul _ _).symm
  · simp only [if_true]
    rw [Int.neg_mul, ← Int.natCast_mul]

theorem order_number (l : Int) (s t : Bool) (m n e g : Nat) :
    (Datum.number s m (l + e)).order (.number t n (l + g)) = some (compare (sig s (m * 2 ^ e)) (sig t (n * 2 ^ g))) := by
  simp only [Datum.order, Option.some.injEq]
  rcases Nat.le_total e g with h | h
  · rw [Int.min_eq_left (by omega)]
    have e1 : (l + (e : Int) - (l + e)).toNat = 0 := by omega
    have e2 : (l + (g : Int) - (l + e)).toNat = g - e := by omega
    rw [e1, e2, compare_mul _ _ ((2 ^ e : Nat) : Int) (by exact_mod_cast Nat.two_pow_pos e), signed_mul, signed_mul, Nat.zero_add, Nat.sub_add_cancel h]
  · rw [Int.min_eq_right (by omega)]
    have e1 : (l + (e : Int) - (l + g)).toNat = e - g := by omega
    have e2 : (l + (g : Int) - (l + g)).toNat = 0 := by omega
    rw [e1, e2, compare_mul _ _ ((2 ^ g : Nat) : Int) (by exact_mod_cast Nat.two_pow_pos g), signed_mul, signed_mul, Nat.zero_add, Nat.sub_add_cancel h]

/-- A number that rises as floats do, the two zeros being one. -/
def key (f : Format) (x : Nat) : Int := sig (sgn f x) (rung f x)

theorem compare_sig (f : Format) (s t : Bool) (a b : Nat) : compare (sig s (mag f a)) (sig t (mag f b)) = compare (sig s a) (sig t b) := by
  have z : mag f 0 = 0 := by unfold mag; rw [if_pos (binade_pos f)]
  have h1 := mag_lt_iff f a b
  have h2 := mag_lt_iff f b a
  have h3 := mag_lt_iff f 0 a
  have h4 := mag_lt_iff f 0 b
  rw [z] at h3 h4
  rw [Int.compare_eq_ite_lt, Int.compare_eq_ite_lt]
  have k1 : (sig s (mag f a) < sig t (mag f b)) ↔ (sig s a < sig t b) := by
    cases s <;> cases t <;> simp only [sig, Bool.false_eq_true, if_false, if_true] <;> omega
  have k2 : (sig t (mag f b) < sig s (mag f a)) ↔ (sig t b < sig s a) := by
    cases s <;> cases t <;> simp only [sig, Bool.false_eq_true, if_false, if_true] <;> omega
  simp only [k1, k2]

theorem order_key (f : Format) (hf : 1 ≤ f.exponentBits) (x y : Nat) (hx : rung f x ≤ f.infRung) (hy : rung f y ≤ f.infRung) :
    f.order x y = some (compare (key f x) (key f y)) := by
  unfold Format.order key
  rw [read_eq, read_eq]
  have hb := inf_ge f hf
  have hp := binade_pos f
  rcases Nat.lt_or_ge (rung f x) f.infRung with h1 | h1
  · obtain ⟨m, e, e1, e2⟩ := unword_fin f (sgn f x) _ h1
    rcases Nat.lt_or_ge (rung f y) f.infRung with h2 | h2
    · obtain ⟨n, g, g1, g2⟩ := unword_fin f (sgn f y) _ h2
      rw [e1, g1, order_number, e2, g2, compare_sig]
    · have e3 : rung f y = f.infRung := by omega
      have e4 : unword f (sgn f y) (rung f y) = .infinity (sgn f y) := by
        unfold unword; rw [if_neg (by omega), if_neg (by omega), if_pos e3]
      rw [e1, e4, e3]
      simp only [Datum.order, Option.some.injEq, Int.compare_eq_ite_lt]
      cases sgn f x <;> cases sgn f y <;> simp only [sig, Bool.false_eq_true, if_false, if_true]
      · rw [if_pos (by omega)]
      · rw [if_neg (by omega), if_pos (by omega)]
      · rw [if_pos (by omega)]
      · rw [if_neg (by omega), if_pos (by omega)]
  · have e3 : rung f x = f.infRung := by omega
    have e4 : unword f (sgn f x) (rung f x) = .infinity (sgn f x) := by
      unfold unword; rw [if_neg (by omega), if_neg (by omega), if_pos e3]
    rcases Nat.lt_or_ge (rung f y) f.infRung with h2 | h2
    · obtain ⟨n, g, g1, g2⟩ := unword_fin f (sgn f y) _ h2
      rw [e4, g1, e3]
      simp only [Datum.order, Option.some.injEq, Int.compare_eq_ite_lt]
      cases sgn f x <;> cases sgn f y <;> simp only [sig, Bool.false_eq_true, if_false, if_true]
      · rw [if_neg (by omega), if_pos (by omega)]
      · rw [if_neg (by omega), if_pos (by omega)]
      · rw [if_pos (by omega)]
      · rw [if_pos (by omega)]
    · have e5 : rung f y = f.infRung := by omega
      have e6 : unword f (sgn f y) (rung f y) = .infinity (sgn f y) := by
        unfold unword; rw [if_neg (by omega), if_neg (by omega), if_pos e5]
      rw [e4, e6, e3, e5]
      simp only [Datum.order, Option.some.injEq, Int.compare_eq_ite_lt]
      cases sgn f x <;> cases sgn f y <;> simp only [sig, Bool.false_eq_true, if_false, if_true, Bool.toNat]
      · rw [if_neg (by omega), if_neg (by omega)]; rfl
      · rw [if_neg (by omega), if_pos (by omega)]; rfl
      · rw [if_pos (by omega)]; rfl
      · rw [if_neg (by omega), if_neg (by omega)]; rfl

theorem order_nan (f : Format) (hf : 1 ≤ f.exponentBits) (x y : Nat) (h : f.infRung < rung f x ∨ f.infRung < rung f y) : f.order x y = none := by
  unfold Format.order
  have hx := read_nan f hf x
  have hy := read_nan f hf y
  cases e : f.read x <;> cases g : f.read y <;> first | rfl | (exfalso; rw [e] at hx; rw [g] at hy; simp [Datum.isNaN] at hx hy; omega)
end Go.Proofs.Ytapfapngcncaeaa.Ie
