/- The operators of one float: what fnum.Unary may answer is what the reference answers. -/
import Derived.Test.YtapfapngcncaeaaDbl2
import Derived.Test.YtapfapngcncaeaaUn0
import Derived.Test.YtapfapngcncaeaaUn1
import Derived.Test.YtapfapngcncaeaaQFx11
import Derived.Test.YtapfapngcncaeaaFl8
import Derived.Test.YtapfapngcncaeaaFl5
namespace Go.Proofs.Ytapfapngcncaeaa.Fl
open Ieee Go.RowKit Go.Proofs.Ytapfapngcncaeaa.Ie Go.Proofs.Ytapfapngcncaeaa.QF Go.Proofs.Ytapfapngcncaeaa.Rf

theorem nan_dec {k : FloatKind} {x : Nat} (h : Nn k x) : ∃ s t, k.decode x = .nan s t := by
  have e := read_nan k.format (by cases k <;> decide) x
  unfold FloatKind.decode
  unfold Nn at h
  rw [decide_eq_true h] at e
  cases hd : k.format.read x with
  | nan s t => exact ⟨s, t, rfl⟩
  | infinity s => rw [hd] at e; cases e
  | number s m i => rw [hd] at e; cases e
theorem conv_nan {s k : FloatKind} (hne : s ≠ k) {x r : Nat} (h : ConvRes s k x r) (hn : Nn s x) : Nn k r := by
  rcases h with h | ⟨_, h, _⟩
  · obtain ⟨a, b, e⟩ := nan_dec hn
    unfold floatToFloatBits at h
    rw [if_neg hne, e] at h; cases h
  · exact h hn
theorem sqrt_nan {x r : Nat} (h : Res .f64 (FloatKind.f64.format.sqrt x) r) (hn : Nn .f64 x) : Nn .f64 r := by
  rcases h with h | ⟨_, h, _⟩
  · obtain ⟨a, b, e⟩ := nan_dec hn
    unfold FloatKind.decode at e
    unfold Ieee.Format.sqrt at h
    rw [e] at h; cases h
  · exact h
theorem sqrt_neg {x r m : Nat} {i : Int} (h : Res .f64 (FloatKind.f64.format.sqrt x) r) (hd : FloatKind.f64.decode x = .number true m i) (hm : m ≠ 0) : Nn .f64 r := by
  rcases h with h | ⟨_, h, _⟩
  · unfold FloatKind.decode at hd
    unfold Ieee.Format.sqrt at h
    rw [hd] at h
    simp only [Ieee.Datum.root] at h
    rw [if_neg hm, if_pos trivial] at h; cases h
  · exact h
def nanC : FloatKind → Int
  | .f32 => 2143289344
  | .f64 => 9221120237041090560
theorem outB_nan {k : FloatKind} {r : Nat} (h : Nn k r) : outB k r = nanC k := by
  unfold outB
  rw [(isNum_false k r).2 h]
  cases k <;> exact if_neg Bool.false_ne_true

theorem mid_nan {k : Int} {d1 d2 : Nat} (h : if k = 6 then Res .f64 (FloatKind.f64.format.sqrt d1) d2 else RoundRes (way k) d1 d2) (hn : Nn .f64 d1) : Nn .f64 d2 := by
  split at h
  · exact sqrt_nan h hn
  · rcases h with ⟨_, h, _⟩ | ⟨h, _⟩
    · exact h
    · exact absurd hn h
theorem un32_nan {k : Int} {x : Nat} {v : Int} (h : Un32 k x v) (hn : Nn .f32 x) : v = 2143289344 := by
  obtain ⟨d1, d2, r, h1, h2, h3, rfl⟩ := h
  exact outB_nan (conv_nan (by decide) h3 (mid_nan h2 (conv_nan (by decide) h1 hn)))
theorem un64_nan {k : Int} {x : Nat} {v : Int} (h : Un64 k x v) (hn : Nn .f64 x) : v = 9221120237041090560 := by
  obtain ⟨r, h2, rfl⟩ := h
  exact outB_nan (mid_nan h2 hn)

/-- Where every step has a fixed answer. -/
theorem mid_val {k : Int} {y z d2 : Nat} (h : if k = 6 then Res .f64 (FloatKind.f64.format.sqrt y) d2 else RoundRes (way k) y d2)
    (h2 : k = 6 → FloatKind.f64.format.sqrt y = some z) (h3 : k ≠ 6 → isNum .f64 y = true ∧ FloatKind.f64.encode ((FloatKind.f64.decode y).integral (way k)) = z) : d2 = z := by
  split at h
  · rename_i c
    rcases h with h | ⟨h, _⟩
    · rw [h2 c] at h; cases h; rfl
    · rw [h2 c] at h; cases h
  · rename_i c
    rcases h with ⟨h, _⟩ | ⟨_, rfl⟩
    · exact absurd h ((isNum_iff _ _).1 (h3 c).1)
    · exact (h3 c).2
theorem un32_val {k : Int} {x y z r : Nat} {v : Int} (h : Un32 k x v) (h1 : floatToFloatBits .f32 x .f64 = some y) (h2 : k = 6 → FloatKind.f64.format.sqrt y = some z) (h3 : k ≠ 6 → isNum .f64 y = true ∧ FloatKind.f64.encode ((FloatKind.f64.decode y).integral (way k)) = z)
    (h4 : floatToFloatBits .f64 z .f32 = some r) (h5 : isNum .f32 r = true) : v = r := by
  obtain ⟨d1, d2, q, g1, g2, g3, rfl⟩ := h
  obtain rfl : d1 = y := by
    rcases g1 with g | ⟨g, _⟩
    · rw [h1] at g; cases g; rfl
    · rw [h1] at g; cases g
  obtain rfl := mid_val g2 h2 h3
  obtain rfl : q = r := by
    rcases g3 with g | ⟨g, _⟩
    · rw [h4] at g; cases g; rfl
    · rw [h4] at g; cases g
  unfold outB; rw [if_pos h5]
theorem un64_val {k : Int} {x r : Nat} {v : Int} (h : Un64 k x v) (h2 : k = 6 → FloatKind.f64.format.sqrt x = some r) (h3 : k ≠ 6 → isNum .f64 x = true ∧ FloatKind.f64.encode ((FloatKind.f64.decode x).integral (way k)) = r)
    (h5 : isNum .f64 r = true) : v = r := by
  obtain ⟨q, g2, rfl⟩ := h
  obtain rfl := mid_val g2 h2 h3
  unfold outB; rw [if_pos h5]

theorem int_zero (w : Ieee.Toward) : FloatKind.f64.encode ((FloatKind.f64.decode 0).integral w) = 0 := by cases w <;> decide
theorem int_nzero (w : Ieee.Toward) : FloatKind.f64.encode ((FloatKind.f64.decode 9223372036854775808).integral w) = 9223372036854775808 := by cases w <;> decide
theorem int_inf (w : Ieee.Toward) : FloatKind.f64.encode ((FloatKind.f64.decode 9218868437227405312).integral w) = 9218868437227405312 := by cases w <;> decide
theorem int_ninf (w : Ieee.Toward) : FloatKind.f64.encode ((FloatKind.f64.decode 18442240474082181120).integral w) = 18442240474082181120 := by cases w <;> decide

theorem un32_zero {k : Int} {x : Nat} {v : Int} (h : Un32 k x v) (hx : x < 4294967296) (h0 : rung FloatKind.f32.format x = 0) : v = x := by
  have hc : x = 0 ∨ x = 2147483648 := by
    unfold rung at h0
    rw [show FloatKind.f32.format.signWeight = 2147483648 by decide] at h0
    omega
  rcases hc with rfl | rfl
  · exact un32_val h (y := 0) (z := 0) (r := 0) (by decide) (fun _ => by decide) (fun _ => ⟨by decide, int_zero _⟩) (by decide) (by decide)
  · exact un32_val h (y := 9223372036854775808) (z := 9223372036854775808) (r := 2147483648) (by decide) (fun _ => by decide) (fun _ => ⟨by decide, int_nzero _⟩) (by decide) (by decide)
theorem un64_zero {k : Int} {x : Nat} {v : Int} (h : Un64 k x v) (hx : x < 18446744073709551616) (h0 : rung FloatKind.f64.format x = 0) : v = x := by
  have hc : x = 0 ∨ x = 9223372036854775808 := by
    unfold rung at h0
    rw [show FloatKind.f64.format.signWeight = 9223372036854775808 by decide] at h0
    omega
  rcases hc with rfl | rfl
  · exact un64_val h (r := 0) (fun _ => by decide) (fun _ => ⟨by decide, int_zero _⟩) (by decide)
  · exact un64_val h (r := 9223372036854775808) (fun _ => by decide) (fun _ => ⟨by decide, int_nzero _⟩) (by decide)
theorem un32_inf {k : Int} {x : Nat} {v : Int} (h : Un32 k x v) (hx : x < 4294967296) (h0 : rung FloatKind.f32.format x = FloatKind.f32.format.infRung) (hs : k = 6 → sgn FloatKind.f32.format x = false) : v = x := by
  have hc : x = 2139095040 ∨ x = 4286578688 := by
    unfold rung at h0
    rw [show FloatKind.f32.format.signWeight = 2147483648 by decide, f32_inf] at h0
    omega
  rcases hc with rfl | rfl
  · exact un32_val h (y := 9218868437227405312) (z := 9218868437227405312) (r := 2139095040) (by decide) (fun _ => by decide) (fun _ => ⟨by decide, int_inf _⟩) (by decide) (by decide)
  · exact un32_val h (y := 18442240474082181120) (z := 18442240474082181120) (r := 4286578688) (by decide) (fun c => absurd (hs c) (by decide)) (fun _ => ⟨by decide, int_ninf _⟩) (by decide) (by decide)
theorem un64_inf {k : Int} {x : Nat} {v : Int} (h : Un64 k x v) (hx : x < 18446744073709551616) (h0 : rung FloatKind.f64.format x = FloatKind.f64.format.infRung) (hs : k = 6 → sgn FloatKind.f64.format x = false) : v = x := by
  have hc : x = 9218868437227405312 ∨ x = 18442240474082181120 := by
    unfold rung at h0
    rw [show FloatKind.f64.format.signWeight = 9223372036854775808 by decide, f64_inf] at h0
    omega
  rcases hc with rfl | rfl
  · exact un64_val h (r := 9218868437227405312) (fun _ => by decide) (fun _ => ⟨by decide, int_inf _⟩) (by decide)
  · exact un64_val h (r := 18442240474082181120) (fun c => absurd (hs c) (by decide)) (fun _ => ⟨by decide, int_ninf _⟩) (by decide)

theorem un64_neg {x : Nat} {v : Int} (h : Un64 6 x v) (hx : x < 18446744073709551616) (hs : sgn FloatKind.f64.format x = true) (h0 : rung FloatKind.f64.format x ≠ 0) (hn : rung FloatKind.f64.format x ≤ FloatKind.f64.format.infRung) : v = 9221120237041090560 := by
  obtain ⟨r, h2, rfl⟩ := h
  rw [if_pos rfl] at h2
  apply outB_nan
  by_cases c : rung FloatKind.f64.format x < FloatKind.f64.format.infRung
  · refine sqrt_neg h2 (decode_fin x c |>.trans (by rw [hs])) ?_
    rw [Ne, sgf_zero]; exact h0
  · have hc : x = 18442240474082181120 := by
      unfold rung at c hn
      unfold sgn at hs
      rw [show FloatKind.f64.format.signWeight = 9223372036854775808 by decide] at c hn hs
      rw [f64_inf] at c hn
      simp only [beq_iff_eq] at hs
      omega
    subst hc
    rcases h2 with h2 | ⟨_, h2, _⟩
    · revert h2; rw [show FloatKind.f64.format.sqrt 18442240474082181120 = none by decide]; intro h2; cases h2
    · exact h2
theorem un32_neg {x : Nat} {v : Int} (h : Un32 6 x v) (hx : x < 4294967296) (hs : sgn FloatKind.f32.format x = true) (h0 : rung FloatKind.f32.format x ≠ 0) (hn : rung FloatKind.f32.format x ≤ FloatKind.f32.format.infRung) : v = 2143289344 := by
  obtain ⟨d1, d2, r, h1, h2, h3, rfl⟩ := h
  rw [if_pos rfl] at h2
  refine outB_nan (conv_nan (by decide) h3 ?_)
  by_cases c : rung FloatKind.f32.format x < FloatKind.f32.format.infRung
  · obtain ⟨r1, hr1, hup, hmag⟩ := up_fin x c
    have hd1 : d1 = FloatKind.f64.format.word true r1 := by
      rw [hs] at hup
      rcases h1 with h1 | ⟨h1, _⟩
      · rw [hup] at h1; cases h1; rfl
      · rw [hup] at h1; cases h1
    rw [hd1] at h2
    refine sqrt_neg h2 (decode_word (k := .f64) true hr1) ?_
    have hM0 : sgf FloatKind.f32.format (rung FloatKind.f32.format x) ≠ 0 := by rw [Ne, sgf_zero]; exact h0
    have hmp := mag_parts FloatKind.f64.format r1
    rw [hmag] at hmp
    intro h
    rw [h, Nat.zero_mul] at hmp
    have := Nat.mul_pos (Nat.pos_of_ne_zero hM0) (Nat.two_pow_pos (exf FloatKind.f32.format (rung FloatKind.f32.format x) + 925))
    omega
  · have hc : x = 4286578688 := by
      unfold rung at c hn
      unfold sgn at hs
      rw [show FloatKind.f32.format.signWeight = 2147483648 by decide] at c hn hs
      rw [f32_inf] at c hn
      simp only [beq_iff_eq] at hs
      omega
    subst hc
    rcases h1 with h1 | ⟨h1, _⟩
    · rw [show floatToFloatBits .f32 4286578688 .f64 = some 18442240474082181120 by decide] at h1
      cases h1
      rcases h2 with h2 | ⟨_, h2, _⟩
      · revert h2; rw [show FloatKind.f64.format.sqrt 18442240474082181120 = none by decide]; intro h2; cases h2
      · exact h2
    · revert h1; rw [show floatToFloatBits .f32 4286578688 .f64 = some 18442240474082181120 by decide]; intro h1; cases h1
theorem un64_sqrt (x : Nat) (v : Int) (n : Nat) (h : Un64 6 x v) (hn : FloatKind.f64.format.sqrt x = some n) (hnn : isNum .f64 n = true) : v = n := by
  exact un64_val h (fun _ => hn) (fun c => absurd rfl c) hnn
theorem way_eq : way = wayOf := rfl
end Go.Proofs.Ytapfapngcncaeaa.Fl
