/- The walk of ratchetlaw04.FnumCompare and its plain law. -/
import Derived.Test.YtapfapngcncaeaaPFnumComparex2
import Derived.Test.YtapfapngcncaeaaFl4
import Derived.Test.YtapfapngcncaeaaRf
namespace Go.Proofs.Ytapfapngcncaeaa.FnumCompareWalk
open Go.RowKit Go.Proofs.Ytapfapngcncaeaa.PFnumCompare Go.Proofs.Ytapfapngcncaeaa.Fl Go.Proofs.Ytapfapngcncaeaa.Ie Go.Proofs.Ytapfapngcncaeaa.Rf
theorem sign32 : ratchetref04_Format_sign.f 23 8 = some 2147483648 := by kernel_rfl
theorem size32 (x : Int) (h0 : 0 ≤ x) (h1 : x < 18446744073709551616) : ratchetref04_Format_size.f 23 8 x = some (x % 2147483648) := by
  unfold ratchetref04_Format_size.f
  rw [sign32, ← and31 x h0 h1]; rfl
theorem rung32 (x : Int) (h0 : 0 ≤ x) : ((rung FloatKind.f32.format x.toNat : Nat) : Int) = x % 2147483648 := by
  unfold rung
  rw [show FloatKind.f32.format.signWeight = 2147483648 by decide]
  omega
theorem cut32 (x : Int) (h0 : 0 ≤ x) (h1 : x < 18446744073709551616) : ratchetref04_Format_cut.f 23 8 x = some (x % 4294967296) := by
  unfold ratchetref04_Format_cut.f; rw [show ratchetref04_Format_width.f 23 8 = some 32 by kernel_rfl, ← and32 x h0 h1]; rfl
theorem isNan32 (x : Int) (h0 : 0 ≤ x) (h1 : x < 18446744073709551616) : ratchetref04_Format_isNan.f 23 8 x = some (decide (FloatKind.f32.format.infRung < rung FloatKind.f32.format x.toNat)) := by
  unfold ratchetref04_Format_isNan.f
  rw [size32 x h0 h1, show ratchetref04_Format_inf.f 23 8 = some 2139095040 by kernel_rfl]
  simp only [Option.bind_some, Option.some.injEq, decide_eq_decide]
  have := rung32 x h0
  rw [show FloatKind.f32.format.infRung = 2139095040 by decide]
  omega
theorem below32 (x : Int) (h0 : 0 ≤ x) (h1 : x < 18446744073709551616) : ratchetref04_Format_below.f 23 8 x = some (sgn FloatKind.f32.format x.toNat) := by
  unfold ratchetref04_Format_below.f
  rw [sign32]
  simp only [Option.bind_some, Option.some.injEq]
  rw [u64_and x 2147483648 h0 h1 (by decide) (by decide), show Int.toNat 2147483648 = 2 ^ 31 by decide, nat_bit]
  unfold sgn
  rw [show FloatKind.f32.format.signWeight = 2 ^ 31 by decide]
  have : x.toNat / 2 ^ 31 % 2 = 0 ∨ x.toNat / 2 ^ 31 % 2 = 1 := by omega
  rcases this with h | h <;> rw [h] <;> rfl
theorem key32 (x : Int) (h0 : 0 ≤ x) (h1 : x < 18446744073709551616) : ratchetref04_Format_key.f 23 8 x = some (key FloatKind.f32.format x.toNat) := by
  unfold ratchetref04_Format_key.f
  rw [below32 x h0 h1]
  simp only [Option.bind_some, size32 x h0 h1]
  unfold key sig
  have hr := rung32 x h0
  have e : ∀ y : Int, 0 ≤ y → y < 9223372036854775808 → wrap64 y = y := fun y a b => by unfold wrap64; omega
  have e2 : ∀ y : Int, 0 ≤ y → y < 9223372036854775808 → wrap64 (-y) = -y := fun y a b => by unfold wrap64; omega
  cases sgn FloatKind.f32.format x.toNat
  · simp only [Bool.false_eq_true, if_false, Option.some.injEq]
    rw [e (x % 2147483648) (by omega) (by omega)]; omega
  · simp only [if_true, Option.some.injEq]
    rw [e (x % 2147483648) (by omega) (by omega), e2 (x % 2147483648) (by omega) (by omega)]; omega
theorem sign64 : ratchetref04_Format_sign.f 52 11 = some 9223372036854775808 := by kernel_rfl
theorem size64 (x : Int) (h0 : 0 ≤ x) (h1 : x < 18446744073709551616) : ratchetref04_Format_size.f 52 11 x = some (x % 9223372036854775808) := by
  unfold ratchetref04_Format_size.f
  rw [sign64, ← and63 x h0 h1]; rfl
theorem rung64 (x : Int) (h0 : 0 ≤ x) : ((rung FloatKind.f64.format x.toNat : Nat) : Int) = x % 9223372036854775808 := by
  unfold rung
  rw [show FloatKind.f64.format.signWeight = 9223372036854775808 by decide]
  omega
theorem cut64 (x : Int) : ratchetref04_Format_cut.f 52 11 x = some x := by
  unfold ratchetref04_Format_cut.f; rw [show ratchetref04_Format_width.f 52 11 = some 64 by kernel_rfl]; rfl
theorem isNan64 (x : Int) (h0 : 0 ≤ x) (h1 : x < 18446744073709551616) : ratchetref04_Format_isNan.f 52 11 x = some (decide (FloatKind.f64.format.infRung < rung FloatKind.f64.format x.toNat)) := by
  unfold ratchetref04_Format_isNan.f
  rw [size64 x h0 h1, show ratchetref04_Format_inf.f 52 11 = some 9218868437227405312 by kernel_rfl]
  simp only [Option.bind_some, Option.some.injEq, decide_eq_decide]
  have := rung64 x h0
  rw [show FloatKind.f64.format.infRung = 9218868437227405312 by decide]
  omega
theorem below64 (x : Int) (h0 : 0 ≤ x) (h1 : x < 18446744073709551616) : ratchetref04_Format_below.f 52 11 x = some (sgn FloatKind.f64.format x.toNat) := by
  unfold ratchetref04_Format_below.f
  rw [sign64]
  simp only [Option.bind_some, Option.some.injEq]
  rw [u64_and x 9223372036854775808 h0 h1 (by decide) (by decide), show Int.toNat 9223372036854775808 = 2 ^ 63 by decide, nat_bit]
  unfold sgn
  rw [show FloatKind.f64.format.signWeight = 2 ^ 63 by decide]
  have : x.toNat / 2 ^ 63 % 2 = 0 ∨ x.toNat / 2 ^ 63 % 2 = 1 := by omega
  rcases this with h | h <;> rw [h] <;> rfl
theorem key64 (x : Int) (h0 : 0 ≤ x) (h1 : x < 18446744073709551616) : ratchetref04_Format_key.f 52 11 x = some (key FloatKind.f64.format x.toNat) := by
  unfold ratchetref04_Format_key.f
  rw [below64 x h0 h1]
  simp only [Option.bind_some, size64 x h0 h1]
  unfold key sig
  have hr := rung64 x h0
  have e : ∀ y : Int, 0 ≤ y → y < 9223372036854775808 → wrap64 y = y := fun y a b => by unfold wrap64; omega
  have e2 : ∀ y : Int, 0 ≤ y → y < 9223372036854775808 → wrap64 (-y) = -y := fun y a b => by unfold wrap64; omega
  cases sgn FloatKind.f64.format x.toNat
  · simp only [Bool.false_eq_true, if_false, Option.some.injEq]
    rw [e (x % 9223372036854775808) (by omega) (by omega)]; omega
  · simp only [if_true, Option.some.injEq]
    rw [e (x % 9223372036854775808) (by omega) (by omega), e2 (x % 9223372036854775808) (by omega) (by omega)]; omega

/-- What the reference answers, by keys. -/
def refCmp (f : Ieee.Format) (n : Int) (x y : Nat) : Bool :=
  if f.infRung < rung f x ∨ f.infRung < rung f y then n == 1
  else if n = 0 then key f x == key f y else if n = 1 then key f x != key f y else if n = 2 then decide (key f x < key f y) else if n = 3 then decide (key f x > key f y)
  else if n = 4 then decide (key f x ≤ key f y) else decide (key f x ≥ key f y)

theorem cmp_same (k : FloatKind) (hf : 1 ≤ k.format.exponentBits) (n : Int) (h0 : 0 ≤ n) (h6 : n < 6) (x y : Nat) : cmpB k n x y = refCmp k.format n x y := by
  have hn : n = 0 ∨ n = 1 ∨ n = 2 ∨ n = 3 ∨ n = 4 ∨ n = 5 := by omega
  unfold refCmp
  by_cases h : k.format.infRung < rung k.format x ∨ k.format.infRung < rung k.format y
  · rw [if_pos h]
    unfold cmpB
    rw [order_nan _ hf x y h]
    rcases hn with rfl | rfl | rfl | rfl | rfl | rfl <;> rfl
  · rw [if_neg h]
    unfold cmpB
    rw [order_key _ hf x y (by omega) (by omega), Int.compare_eq_ite_lt]
    generalize key k.format x = a
    generalize key k.format y = b
    rcases Int.lt_trichotomy a b with hab | hab | hab
    · have e1 : (a == b) = false := by simp; omega
      have e2 : (a != b) = true := by simp; omega
      have e3 : ¬ a > b := by omega
      have e4 : a ≤ b := by omega
      have e5 : ¬ a ≥ b := by omega
      rw [if_pos hab]
      rcases hn with rfl | rfl | rfl | rfl | rfl | rfl <;> simp [e1, e2, e3, e4, e5, hab]
    · subst hab
      rw [if_neg (Int.lt_irrefl a), if_neg (Int.lt_irrefl a)]
      rcases hn with rfl | rfl | rfl | rfl | rfl | rfl <;> simp
    · have e1 : (a == b) = false := by simp; omega
      have e2 : (a != b) = true := by simp; omega
      have e3 : ¬ a < b := by omega
      have e4 : ¬ a ≤ b := by omega
      have e5 : a ≥ b := by omega
      rw [if_neg e3, if_pos hab]
      rcases hn with rfl | rfl | rfl | rfl | rfl | rfl <;> simp [e1, e2, e3, e4, e5, hab]

theorem ref32 (k : Nat) (n a b : Int) (h0 : 0 ≤ n) (h6 : n < 6) (ha0 : 0 ≤ a) (ha1 : a < 18446744073709551616) (hb0 : 0 ≤ b) (hb1 : b < 18446744073709551616) :
    ratchetref04_Format_Compare.f (k + 1 + 1) 23 8 n a b = some (B01 (refCmp FloatKind.f32.format n (a % 4294967296).toNat (b % 4294967296).toNat)) := by
  unfold ratchetref04_Format_Compare.f
  have hn : n = 0 ∨ n = 1 ∨ n = 2 ∨ n = 3 ∨ n = 4 ∨ n = 5 := by omega
  have i1 := isNan32 (a % 4294967296) (by omega) (by omega)
  have i2 := isNan32 (b % 4294967296) (by omega) (by omega)
  rw [cut32 a ha0 ha1, cut32 b hb0 hb1]
  simp only [Option.bind_some, key32 (a % 4294967296) (by omega) (by omega), key32 (b % 4294967296) (by omega) (by omega)]
  unfold refCmp
  by_cases hx : FloatKind.f32.format.infRung < rung FloatKind.f32.format (a % 4294967296).toNat
  · simp only [hx, decide_true, true_or, if_true] at i1 ⊢
    rcases hn with rfl | rfl | rfl | rfl | rfl | rfl <;> simp [ratchetref04_Format_Compare.j0, ratchetref04_Format_Compare.j1, i1, B01]
  · by_cases hy : FloatKind.f32.format.infRung < rung FloatKind.f32.format (b % 4294967296).toNat
    · simp only [hx, hy, decide_true, decide_false, or_true, if_true] at i1 i2 ⊢
      rcases hn with rfl | rfl | rfl | rfl | rfl | rfl <;> simp [ratchetref04_Format_Compare.j0, ratchetref04_Format_Compare.j1, i1, i2, B01]
    · simp only [hx, hy, decide_false, or_self, if_false] at i1 i2 ⊢
      generalize key FloatKind.f32.format (a % 4294967296).toNat = u
      generalize key FloatKind.f32.format (b % 4294967296).toNat = v
      rcases hn with rfl | rfl | rfl | rfl | rfl | rfl <;> simp [ratchetref04_Format_Compare.j0, ratchetref04_Format_Compare.j1, i1, i2, B01] <;> split <;> rfl


theorem ref64 (k : Nat) (n a b : Int) (h0 : 0 ≤ n) (h6 : n < 6) (ha0 : 0 ≤ a) (ha1 : a < 18446744073709551616) (hb0 : 0 ≤ b) (hb1 : b < 18446744073709551616) :
    ratchetref04_Format_Compare.f (k + 1 + 1) 52 11 n a b = some (B01 (refCmp FloatKind.f64.format n (a).toNat (b).toNat)) := by
  unfold ratchetref04_Format_Compare.f
  have hn : n = 0 ∨ n = 1 ∨ n = 2 ∨ n = 3 ∨ n = 4 ∨ n = 5 := by omega
  have i1 := isNan64 (a) (by omega) (by omega)
  have i2 := isNan64 (b) (by omega) (by omega)
  rw [cut64 a, cut64 b]
  simp only [Option.bind_some, key64 (a) (by omega) (by omega), key64 (b) (by omega) (by omega)]
  unfold refCmp
  by_cases hx : FloatKind.f64.format.infRung < rung FloatKind.f64.format (a).toNat
  · simp only [hx, decide_true, true_or, if_true] at i1 ⊢
    rcases hn with rfl | rfl | rfl | rfl | rfl | rfl <;> simp [ratchetref04_Format_Compare.j0, ratchetref04_Format_Compare.j1, i1, B01]
  · by_cases hy : FloatKind.f64.format.infRung < rung FloatKind.f64.format (b).toNat
    · simp only [hx, hy, decide_true, decide_false, or_true, if_true] at i1 i2 ⊢
      rcases hn with rfl | rfl | rfl | rfl | rfl | rfl <;> simp [ratchetref04_Format_Compare.j0, ratchetref04_Format_Compare.j1, i1, i2, B01]
    · simp only [hx, hy, decide_false, or_self, if_false] at i1 i2 ⊢
      generalize key FloatKind.f64.format (a).toNat = u
      generalize key FloatKind.f64.format (b).toNat = v
      rcases hn with rfl | rfl | rfl | rfl | rfl | rfl <;> simp [ratchetref04_Format_Compare.j0, ratchetref04_Format_Compare.j1, i1, i2, B01] <;> split <;> rfl


set_option maxRecDepth 100000 in
theorem law (n a b x e : Int) (k : Nat) (w : World)
    (h1 : ∀ w : World, Calls Try.prog 27 #[.int .i64 n, .int .u64 a, .int .u64 b] w fun r w' => r = .returned (.tuple #[.int .u64 x, .int .i64 e]) ∧ Below w.heap.size w w')
    (h2 : ratchetref04_Compare.f k n a b = some (x, e)) :
    Calls Try.prog 6 #[.int .i64 n, .int .u64 a, .int .u64 b] w fun r w' => r = .returned (.bool true) ∧ Below w.heap.size w w' := by
  have H1 := Lib.hid h1
  have H2 := Lib.hid h2
  clear h1 h2
  go_enter Try.func6, Try.ntmps6
  go_wp2_with (first | (go_at_call 27; refine (H1.out _).mono ?_; rintro r w1 ⟨rfl, hb1⟩) | (go_at_call 28; refine (ratchetref04_Compare.calls k n a b x e _ H2.out).mono ?_; rintro r w2 ⟨rfl, hb2⟩))
  go_ret
  exact ⟨rfl, hb1.trans (hb2.mono hb1.size)⟩


theorem format_lo (k : Nat) (n : Int) (h : 91 ≤ n) (h' : n < 97) : ratchetref04_format.f (k + 1) n 91 97 6 = some (23, 8, n - 91, true) := by
  unfold ratchetref04_format.f
  rw [if_pos (by omega), show (decide (n < wrap64 (91 + 6))) = true by simp [wrap64]; omega]
  simp only [ratchetref04_format.j0, if_true, ratchetref04_F32.f, Option.bind_some]
  rw [show wrap64 (n - 91) = n - 91 by unfold wrap64; omega]
theorem format_hi (k : Nat) (n : Int) (h : 97 ≤ n) (h' : n < 103) : ratchetref04_format.f (k + 1) n 91 97 6 = some (52, 11, n - 97, true) := by
  unfold ratchetref04_format.f
  rw [if_pos (by omega), show (decide (n < wrap64 (91 + 6))) = false by simp [wrap64]; omega]
  simp only [ratchetref04_format.j0, Bool.false_eq_true, if_false, ratchetref04_F64.f, Option.bind_some]
  rw [if_pos (by omega), show wrap64 (n - 97) = n - 97 by unfold wrap64; omega, show (decide (n < wrap64 (97 + 6))) = true by simp [wrap64]; omega]
theorem format_no (k : Nat) (n : Int) (h : n < 91 ∨ 103 ≤ n) : ∃ x, ratchetref04_format.f (k + 1) n 91 97 6 = some (52, 11, x, false) := by
  unfold ratchetref04_format.f
  rcases h with h | h
  · rw [if_neg (by omega)]
    simp only [ratchetref04_format.j0, Bool.false_eq_true, if_false, ratchetref04_F64.f, Option.bind_some]
    rw [if_neg (by omega)]
    exact ⟨_, rfl⟩
  · rw [if_pos (by omega), show (decide (n < wrap64 (91 + 6))) = false by simp [wrap64]; omega]
    simp only [ratchetref04_format.j0, Bool.false_eq_true, if_false, ratchetref04_F64.f, Option.bind_some]
    rw [if_pos (by omega), show (decide (n < wrap64 (97 + 6))) = false by simp [wrap64]; omega]
    exact ⟨_, rfl⟩

theorem walk (n a b : Int) (w : World) (_ : (Lit.int .i64 n).wf = true) (ha : (Lit.int .u64 a).wf = true) (hb : (Lit.int .u64 b).wf = true) :
    Calls Try.prog 6 #[.int .i64 n, .int .u64 a, .int .u64 b] w fun r w' => r = .returned (.bool true) ∧ Below w.heap.size w w' := by
  simp [Lit.wf, IntKind.min, IntKind.max, IntKind.signed, IntKind.bits] at ha hb
  have ha0 : 0 ≤ a := ha.1
  have ha1 : a < 18446744073709551616 := by omega
  have hb0 : 0 ≤ b := hb.1
  have hb1 : b < 18446744073709551616 := by omega
  by_cases h1 : 91 ≤ n ∧ n < 97
  · refine law n a b _ 0 2 w (fun w => compare_32 n a b w h1.1 h1.2) ?_
    unfold ratchetref04_Compare.f
    rw [format_lo 1 n h1.1 h1.2]
    simp only [Option.bind_some, if_true]
    rw [ref32 0 (n - 91) a b (by omega) (by omega) ha0 ha1 hb0 hb1, cmp_same .f32 (by decide) _ (by omega) (by omega)]
    rfl
  · by_cases h2 : 97 ≤ n ∧ n < 103
    · refine law n a b _ 0 2 w (fun w => compare_64 n a b w h2.1 h2.2) ?_
      unfold ratchetref04_Compare.f
      rw [format_hi 1 n h2.1 h2.2]
      simp only [Option.bind_some, if_true]
      rw [ref64 0 (n - 97) a b (by omega) (by omega) ha0 ha1 hb0 hb1, cmp_same .f64 (by decide) _ (by omega) (by omega)]
      rfl
    · refine law n a b 0 1 2 w (fun w => compare_no n a b w (by omega)) ?_
      unfold ratchetref04_Compare.f
      obtain ⟨x, hx⟩ := format_no 1 n (by omega)
      rw [hx]
      simp
end Go.Proofs.Ytapfapngcncaeaa.FnumCompareWalk
