/- The special cases of the operations of two floats, in plain Lean. -/
import Derived.Test.YtapfapngcncaeaaQuo1
import Derived.Test.YtapfapngcncaeaaFl4
import Derived.Test.YtapfapngcncaeaaFl5
namespace Go.Proofs.Ytapfapngcncaeaa.Ie
open Ieee Go.Proofs.Ytapfapngcncaeaa.Fl

theorem word_eq (f : Format) (x : Nat) (h : x < 2 * f.signWeight) : f.word (sgn f x) (rung f x) = x := by
  unfold Format.word sgn rung
  have hp := sign_pos f
  have h2 : x / f.signWeight < 2 := by rw [Nat.div_lt_iff_lt_mul hp]; omega
  have hm := Nat.div_add_mod x f.signWeight
  generalize x / f.signWeight = q at h2 hm ⊢
  have h3 : q = 0 ∨ q = 1 := by omega
  rcases h3 with rfl | rfl
  · rw [Nat.mul_zero, Nat.zero_add] at hm
    rw [if_neg (by decide)]; exact hm
  · rw [Nat.mul_one] at hm
    rw [if_pos (by decide)]; exact hm
theorem read_fin (f : Format) (x : Nat) (h : rung f x < f.infRung) : f.read x = .number (sgn f x) (sgf f (rung f x)) (f.leastPlace + exf f (rung f x)) := by rw [read_eq, unword_parts _ _ _ h]
theorem read_inf (f : Format) (hf : 1 ≤ f.exponentBits) (x : Nat) (h : rung f x = f.infRung) : f.read x = .infinity (sgn f x) := by
  have hb := inf_ge f hf
  rw [read_eq]; unfold unword
  rw [if_neg (by omega), if_neg (by omega), if_pos h]
theorem read_nanD (f : Format) (hf : 1 ≤ f.exponentBits) (x : Nat) (h : f.infRung < rung f x) : ∃ s t, f.read x = .nan s t := by
  have e := read_nan f hf x
  rw [decide_eq_true h] at e
  cases hd : f.read x with
  | nan s t => exact ⟨s, t, rfl⟩
  | infinity s => rw [hd] at e; cases e
  | number s m i => rw [hd] at e; cases e
theorem signed_zero (s : Bool) (u : Nat) : signed s 0 u = 0 := by
  unfold signed; rw [Nat.zero_shiftLeft]; cases s <;> rfl
theorem write_inf (f : Format) (s : Bool) : f.write (.infinity s) = f.word s f.infRung := rfl
theorem write_zero (f : Format) (s : Bool) (i : Int) : f.write (.number s 0 i) = f.word s 0 := by
  show f.nearest s 0 i = _
  simp [Format.nearest]

section
variable {f : Format} {x y : Nat} {s t : Bool} {m n : Nat} {i j : Int}
theorem add_nl {u : Nat} (hx : f.read x = .nan s u) : f.add x y = none := by
  unfold Format.add; rw [hx]; cases f.read y <;> rfl
theorem mul_nl {u : Nat} (hx : f.read x = .nan s u) : f.mul x y = none := by
  unfold Format.mul; rw [hx]; cases f.read y <;> rfl
theorem div_nl {u : Nat} (hx : f.read x = .nan s u) : f.div x y = none := by
  unfold Format.div; rw [hx]; cases f.read y <;> rfl
theorem add_nr {u : Nat} (hy : f.read y = .nan t u) : f.add x y = none := by
  unfold Format.add; rw [hy]; cases f.read x <;> rfl
theorem mul_nr {u : Nat} (hy : f.read y = .nan t u) : f.mul x y = none := by
  unfold Format.mul; rw [hy]; cases f.read x <;> rfl
theorem div_nr {u : Nat} (hy : f.read y = .nan t u) : f.div x y = none := by
  unfold Format.div; rw [hy]; cases f.read x <;> rfl
theorem add_ii (hx : f.read x = .infinity s) (hy : f.read y = .infinity t) : f.add x y = if s = t then some (f.word s f.infRung) else none := by
  unfold Format.add; rw [hx, hy]; simp only [Datum.sum]; split <;> rfl
theorem add_if (hx : f.read x = .infinity s) (hy : f.read y = .number t n j) : f.add x y = some (f.word s f.infRung) := by
  unfold Format.add; rw [hx, hy]; rfl
theorem add_fi (hx : f.read x = .number s m i) (hy : f.read y = .infinity t) : f.add x y = some (f.word t f.infRung) := by
  unfold Format.add; rw [hx, hy]; rfl
theorem add_00 (hx : f.read x = .number s 0 i) (hy : f.read y = .number t 0 j) : f.add x y = some (f.word (s && t) 0) := by
  unfold Format.add; rw [hx, hy]; simp only [Datum.sum]
  rw [signed_zero, signed_zero]
  show some (f.write (.number (s && t) 0 _)) = _
  rw [write_zero]
theorem mul_ii (hx : f.read x = .infinity s) (hy : f.read y = .infinity t) : f.mul x y = some (f.word (s ^^ t) f.infRung) := by
  unfold Format.mul; rw [hx, hy]; rfl
theorem mul_if (hx : f.read x = .infinity s) (hy : f.read y = .number t n j) : f.mul x y = if n = 0 then none else some (f.word (s ^^ t) f.infRung) := by
  unfold Format.mul; rw [hx, hy]; simp only [Datum.product]; split <;> rfl
theorem mul_fi (hx : f.read x = .number s m i) (hy : f.read y = .infinity t) : f.mul x y = if m = 0 then none else some (f.word (s ^^ t) f.infRung) := by
  rw [mul_comm, mul_if hy hx, Bool.xor_comm]
theorem div_ii (hx : f.read x = .infinity s) (hy : f.read y = .infinity t) : f.div x y = none := by
  unfold Format.div; rw [hx, hy]; rfl
theorem div_if (hx : f.read x = .infinity s) (hy : f.read y = .number t n j) : f.div x y = some (f.word (s ^^ t) f.infRung) := by
  unfold Format.div; rw [hx, hy]; rfl
theorem div_fi (hx : f.read x = .number s m i) (hy : f.read y = .infinity t) : f.div x y = some (f.word (s ^^ t) 0) := by
  unfold Format.div; rw [hx, hy]; simp only [Datum.quotient]
  show some (f.write (.number _ 0 _)) = _
  rw [write_zero]
theorem div_f0 (hx : f.read x = .number s m i) (hy : f.read y = .number t 0 j) : f.div x y = if m = 0 then none else some (f.word (s ^^ t) f.infRung) := by
  unfold Format.div; rw [hx, hy]; simp only [Datum.quotient]
  rw [if_pos trivial]; split <;> rfl
theorem div_0f (hx : f.read x = .number s 0 i) (hy : f.read y = .number t n j) (hn : n ≠ 0) : f.div x y = some (f.word (s ^^ t) 0) := by
  unfold Format.div; rw [hx, hy]; simp only [Datum.quotient]
  rw [if_neg hn, Nat.zero_shiftLeft, Nat.zero_div, Nat.zero_mod]
  show some (f.write (.number _ 0 _)) = _
  rw [write_zero]
end
theorem sum_num {d e r : Datum} (h : d.sum e = some r) : r.isNaN = false := by
  cases d <;> cases e <;> simp only [Datum.sum] at h <;> first | cases h; done | (cases h; rfl) | (split at h <;> cases h; rfl)
theorem product_num {d e r : Datum} (h : d.product e = some r) : r.isNaN = false := by
  cases d <;> cases e <;> simp only [Datum.product] at h <;> first | cases h; done | (cases h; rfl) | (split at h <;> cases h; rfl)
theorem quotient_num {g : Nat} {d e r : Datum} (h : d.quotient g e = some r) : r.isNaN = false := by
  cases d <;> cases e <;> simp only [Datum.quotient] at h <;> first | cases h; done | (cases h; rfl) | (split at h; (split at h <;> cases h; rfl); cases h; rfl)

/-- The bits of a sign. -/
theorem sgn_and (i : Nat) (_ : i < 64) (x y : Nat) (hx : x < 2 ^ (i + 1)) (hy : y < 2 ^ (i + 1)) :
    (x ^^^ y) &&& 2 ^ i = if ((x / 2 ^ i % 2 == 1) ^^ (y / 2 ^ i % 2 == 1)) = true then 2 ^ i else 0 := by
  rw [nat_bit, Nat.xor_div_two_pow]
  have hp : 0 < 2 ^ i := Nat.two_pow_pos i
  have h1 : x / 2 ^ i < 2 := by rw [Nat.div_lt_iff_lt_mul hp]; rw [Nat.pow_succ] at hx; omega
  have h2 : y / 2 ^ i < 2 := by rw [Nat.div_lt_iff_lt_mul hp]; rw [Nat.pow_succ] at hy; omega
  generalize x / 2 ^ i = a at h1 ⊢
  generalize y / 2 ^ i = b at h2 ⊢
  have h3 : a = 0 ∨ a = 1 := by omega
  have h4 : b = 0 ∨ b = 1 := by omega
  rcases h3 with rfl | rfl <;> rcases h4 with rfl | rfl <;> simp
end Go.Proofs.Ytapfapngcncaeaa.Ie
