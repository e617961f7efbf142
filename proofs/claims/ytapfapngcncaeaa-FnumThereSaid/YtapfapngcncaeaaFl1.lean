/- Contracts of the float functions of fnum at the bottom: sum, bits, compared, for both widths. -/
import Derived.Test.YtapfapngcncaeaaFl0
import Derived.Test.YtapfapngcncaeaaIe
import Derived.Laws.Small
import Derived.Deep.Draws
import Derived.Lib.Hide
namespace Go.Proofs.Ytapfapngcncaeaa.Fl
open Go.RowKit Go.Proofs.Ytapfapngcncaeaa.Ie

def minF (f : Ieee.Format) (x y : Nat) : Option Nat :=
  match f.order x y with
  | none => none
  | some .lt => some x
  | some .gt => some y
  | some .eq => some (if (f.read x).neg then x else y)
def maxF (f : Ieee.Format) (x y : Nat) : Option Nat :=
  match f.order x y with
  | none => none
  | some .lt => some y
  | some .gt => some x
  | some .eq => some (if (f.read x).neg then y else x)

/-- What an operation answers: its own word, or some NaN where it has none. -/
def Res (k : FloatKind) (o : Option Nat) (r : Nat) : Prop :=
  o = some r ∨ (o = none ∧ k.format.infRung < rung k.format r ∧ r < 2 ^ k.format.width)

theorem nan_cut32 (q : Question) (t : Nat) (hq : (∃ x y, q = .nanBits .f32 x y) ∨ (∃ x, q = .nanConv .f32 x) ∨ ∃ b x y, q = .nanMinMax .f32 b x y) :
    FloatKind.f32.format.infRung < rung FloatKind.f32.format (q.cut t) ∧ q.cut t < 2 ^ FloatKind.f32.format.width := by
  have e : q.cut t = (t % 2) * 2 ^ 31 + 0x7f800000 + 1 + (t / 2) % (2 ^ 23 - 1) := by
    rcases hq with ⟨x, y, rfl⟩ | ⟨x, rfl⟩ | ⟨b, x, y, rfl⟩ <;> rfl
  rw [e]
  have e1 : FloatKind.f32.format.infRung = 2139095040 := by decide
  have e2 : FloatKind.f32.format.signWeight = 2147483648 := by decide
  have e3 : 2 ^ FloatKind.f32.format.width = 4294967296 := by decide
  unfold rung
  rw [e1, e2, e3]
  have ha : t % 2 = 0 ∨ t % 2 = 1 := by omega
  have hb : t / 2 % (2 ^ 23 - 1) < 2 ^ 23 - 1 := Nat.mod_lt _ (by decide)
  generalize t / 2 % (2 ^ 23 - 1) = b at hb ⊢
  rcases ha with ha | ha <;> rw [ha] <;> omega
theorem nan_cut64 (q : Question) (t : Nat) (hq : (∃ x y, q = .nanBits .f64 x y) ∨ (∃ x, q = .nanConv .f64 x) ∨ ∃ b x y, q = .nanMinMax .f64 b x y) :
    FloatKind.f64.format.infRung < rung FloatKind.f64.format (q.cut t) ∧ q.cut t < 2 ^ FloatKind.f64.format.width := by
  have e : q.cut t = (t % 2) * 2 ^ 63 + 0x7ff0000000000000 + 1 + (t / 2) % (2 ^ 52 - 1) := by
    rcases hq with ⟨x, y, rfl⟩ | ⟨x, rfl⟩ | ⟨b, x, y, rfl⟩ <;> rfl
  rw [e]
  have e1 : FloatKind.f64.format.infRung = 9218868437227405312 := by decide
  have e2 : FloatKind.f64.format.signWeight = 9223372036854775808 := by decide
  have e3 : 2 ^ FloatKind.f64.format.width = 18446744073709551616 := by decide
  unfold rung
  rw [e1, e2, e3]
  have ha : t % 2 = 0 ∨ t % 2 = 1 := by omega
  have hb : t / 2 % (2 ^ 52 - 1) < 2 ^ 52 - 1 := Nat.mod_lt _ (by decide)
  generalize t / 2 % (2 ^ 52 - 1) = b at hb ⊢
  rcases ha with ha | ha <;> rw [ha] <;> omega
theorem nan_cut (k : FloatKind) (q : Question) (t : Nat) (hq : (∃ x y, q = .nanBits k x y) ∨ (∃ x, q = .nanConv k x) ∨ ∃ b x y, q = .nanMinMax k b x y) :
    k.format.infRung < rung k.format (q.cut t) ∧ q.cut t < 2 ^ k.format.width := by
  cases k
  · exact nan_cut32 q t hq
  · exact nan_cut64 q t hq

theorem run_arith {P : Program} (op : BinOp) (hop : op = .add ∨ op = .sub ∨ op = .mul ∨ op = .quo) (t : TypeId) (k : FloatKind) (x y : Nat) (w : World) :
    ∃ r n, (binOp op t (.float k x) (.float k y)).run P w = .ok (.float k r) (w.drewN n) ∧ Res k (floatBits op k x y) r := by
  cases h : floatBits op k x y with
  | some r => exact ⟨r, 0, run_float_arith w op t k x y r h, .inl rfl⟩
  | none =>
    refine ⟨(Question.nanBits k x y).cut (w.tape w.drawn (.nanBits k x y)), 1, ?_, .inr ⟨rfl, nan_cut k _ _ (.inl ⟨x, y, rfl⟩)⟩⟩
    unfold floatBits at h
    rcases hop with rfl | rfl | rfl | rfl <;> simp only at h <;> simp [binOp, Op.floatArith, h, Question.forced] <;> rfl

theorem run_min {P : Program} (ts : Array TypeId) (t : TypeId) (k : FloatKind) (x y : Nat) (w : World) :
    ∃ r n, (Builtin.min_ ts t #[.float k x, .float k y]).run P w = .ok (.float k r) (w.drewN n) ∧ Res k (minF k.format x y) r := by
  cases h : k.format.order x y with
  | none =>
    refine ⟨(Question.nanMinMax k false x y).cut (w.tape w.drawn (.nanMinMax k false x y)), 1, ?_, .inr ⟨by simp [minF, h], nan_cut k _ _ (.inr (.inr ⟨false, x, y, rfl⟩))⟩⟩
    simp [Builtin.min_, Builtin.min2, h, Question.forced]; rfl
  | some o =>
    cases o with
    | lt => exact ⟨x, 0, by simp [Builtin.min_, Builtin.min2, h]; rfl, .inl (by simp [minF, h])⟩
    | gt => exact ⟨y, 0, by simp [Builtin.min_, Builtin.min2, h]; rfl, .inl (by simp [minF, h])⟩
    | eq => exact ⟨if (k.format.read x).neg then x else y, 0, by simp [Builtin.min_, Builtin.min2, h]; exact ⟨rfl, rfl⟩, .inl (by simp [minF, h])⟩
theorem run_max {P : Program} (ts : Array TypeId) (t : TypeId) (k : FloatKind) (x y : Nat) (w : World) :
    ∃ r n, (Builtin.max_ ts t #[.float k x, .float k y]).run P w = .ok (.float k r) (w.drewN n) ∧ Res k (maxF k.format x y) r := by
  cases h : k.format.order x y with
  | none =>
    refine ⟨(Question.nanMinMax k true x y).cut (w.tape w.drawn (.nanMinMax k true x y)), 1, ?_, .inr ⟨by simp [maxF, h], nan_cut k _ _ (.inr (.inr ⟨true, x, y, rfl⟩))⟩⟩
    simp [Builtin.max_, Builtin.max2, h, Question.forced]; rfl
  | some o =>
    cases o with
    | lt => exact ⟨y, 0, by simp [Builtin.max_, Builtin.max2, h]; rfl, .inl (by simp [maxF, h])⟩
    | gt => exact ⟨x, 0, by simp [Builtin.max_, Builtin.max2, h]; rfl, .inl (by simp [maxF, h])⟩
    | eq => exact ⟨if (k.format.read x).neg then y else x, 0, by simp [Builtin.max_, Builtin.max2, h]; exact ⟨rfl, rfl⟩, .inl (by simp [maxF, h])⟩

/-- add, sub, mul, div, min, max. -/
def arith (k : FloatKind) (n : Int) (x y : Nat) : Option Nat :=
  if n = 0 then k.format.add x y else if n = 1 then k.format.sub x y else if n = 2 then k.format.mul x y else if n = 3 then k.format.div x y
  else if n = 4 then minF k.format x y else maxF k.format x y

def SumPost (k : FloatKind) (n : Int) (x y : Nat) (w : World) (e : Ending) (w' : World) : Prop :=
  ∃ r c, e = .returned (.float k r) ∧ Res k (arith k n x y) r ∧ w' = w.drewN c

set_option maxRecDepth 100000 in
theorem sumf32_calls (n : Int) (h0 : 0 ≤ n) (h6 : n < 6) (x y : Nat) (w : World) :
    Calls Try.prog 50 #[.int .i64 n, .float .f32 x, .float .f32 y] w (SumPost .f32 n x y w) := by
  have hn : n = 0 ∨ n = 1 ∨ n = 2 ∨ n = 3 ∨ n = 4 ∨ n = 5 := by omega
  rcases hn with rfl | rfl | rfl | rfl | rfl | rfl
  · obtain ⟨r, c, hr, hR⟩ := run_arith (P := Try.prog) .add (by simp) 51 .f32 x y w
    have HR := Lib.hid hR
    clear hR
    go_enter Try.func50, Try.ntmps50
    go_wp2
    go_ret
    exact ⟨r, c, rfl, HR.out, rfl⟩
  · obtain ⟨r, c, hr, hR⟩ := run_arith (P := Try.prog) .sub (by simp) 51 .f32 x y w
    have HR := Lib.hid hR
    clear hR
    go_enter Try.func50, Try.ntmps50
    go_wp2
    go_ret
    exact ⟨r, c, rfl, HR.out, rfl⟩
  · obtain ⟨r, c, hr, hR⟩ := run_arith (P := Try.prog) .mul (by simp) 51 .f32 x y w
    have HR := Lib.hid hR
    clear hR
    go_enter Try.func50, Try.ntmps50
    go_wp2
    go_ret
    exact ⟨r, c, rfl, HR.out, rfl⟩
  · obtain ⟨r, c, hr, hR⟩ := run_arith (P := Try.prog) .quo (by simp) 51 .f32 x y w
    have HR := Lib.hid hR
    clear hR
    go_enter Try.func50, Try.ntmps50
    go_wp2
    go_ret
    exact ⟨r, c, rfl, HR.out, rfl⟩
  · obtain ⟨r, c, hr, hR⟩ := run_min (P := Try.prog) #[51, 51] 51 .f32 x y w
    have HR := Lib.hid hR
    clear hR
    go_enter Try.func50, Try.ntmps50
    go_wp2
    go_ret
    exact ⟨r, c, rfl, HR.out, rfl⟩
  · obtain ⟨r, c, hr, hR⟩ := run_max (P := Try.prog) #[51, 51] 51 .f32 x y w
    have HR := Lib.hid hR
    clear hR
    go_enter Try.func50, Try.ntmps50
    go_wp2
    go_ret
    exact ⟨r, c, rfl, HR.out, rfl⟩

set_option maxRecDepth 100000 in
theorem sumf64_calls (n : Int) (h0 : 0 ≤ n) (h6 : n < 6) (x y : Nat) (w : World) :
    Calls Try.prog 52 #[.int .i64 n, .float .f64 x, .float .f64 y] w (SumPost .f64 n x y w) := by
  have hn : n = 0 ∨ n = 1 ∨ n = 2 ∨ n = 3 ∨ n = 4 ∨ n = 5 := by omega
  rcases hn with rfl | rfl | rfl | rfl | rfl | rfl
  · obtain ⟨r, c, hr, hR⟩ := run_arith (P := Try.prog) .add (by simp) 53 .f64 x y w
    have HR := Lib.hid hR
    clear hR
    go_enter Try.func52, Try.ntmps52
    go_wp2
    go_ret
    exact ⟨r, c, rfl, HR.out, rfl⟩
  · obtain ⟨r, c, hr, hR⟩ := run_arith (P := Try.prog) .sub (by simp) 53 .f64 x y w
    have HR := Lib.hid hR
    clear hR
    go_enter Try.func52, Try.ntmps52
    go_wp2
    go_ret
    exact ⟨r, c, rfl, HR.out, rfl⟩
  · obtain ⟨r, c, hr, hR⟩ := run_arith (P := Try.prog) .mul (by simp) 53 .f64 x y w
    have HR := Lib.hid hR
    clear hR
    go_enter Try.func52, Try.ntmps52
    go_wp2
    go_ret
    exact ⟨r, c, rfl, HR.out, rfl⟩
  · obtain ⟨r, c, hr, hR⟩ := run_arith (P := Try.prog) .quo (by simp) 53 .f64 x y w
    have HR := Lib.hid hR
    clear hR
    go_enter Try.func52, Try.ntmps52
    go_wp2
    go_ret
    exact ⟨r, c, rfl, HR.out, rfl⟩
  · obtain ⟨r, c, hr, hR⟩ := run_min (P := Try.prog) #[53, 53] 53 .f64 x y w
    have HR := Lib.hid hR
    clear hR
    go_enter Try.func52, Try.ntmps52
    go_wp2
    go_ret
    exact ⟨r, c, rfl, HR.out, rfl⟩
  · obtain ⟨r, c, hr, hR⟩ := run_max (P := Try.prog) #[53, 53] 53 .f64 x y w
    have HR := Lib.hid hR
    clear hR
    go_enter Try.func52, Try.ntmps52
    go_wp2
    go_ret
    exact ⟨r, c, rfl, HR.out, rfl⟩
end Go.Proofs.Ytapfapngcncaeaa.Fl
