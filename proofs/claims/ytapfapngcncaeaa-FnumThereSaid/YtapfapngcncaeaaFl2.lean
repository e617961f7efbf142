/- Contracts of fnum's bits, compared, table, Nan, Canon. -/
import Derived.Test.YtapfapngcncaeaaFl1
namespace Go.Proofs.Ytapfapngcncaeaa.Fl
open Go.RowKit Go.Proofs.Ytapfapngcncaeaa.Ie

def cmpB (k : FloatKind) (n : Int) (x y : Nat) : Bool :=
  if n = 0 then k.format.order x y == some .eq else if n = 1 then k.format.order x y != some .eq else if n = 2 then k.format.order x y == some .lt
  else if n = 3 then k.format.order x y == some .gt else if n = 4 then (k.format.order x y == some .lt || k.format.order x y == some .eq)
  else (k.format.order x y == some .gt || k.format.order x y == some .eq)

theorem ta_32 (x : Nat) (w : World) : (Instr.typeAssert (.iface 51 (.float .f32 x)) 20 51 true).run Try.prog w = .ok (.tuple #[.float .f32 x, .bool true]) w := by kernel_rfl
theorem ta_64 (x : Nat) (w : World) : (Instr.typeAssert (.iface 53 (.float .f64 x)) 20 53 true).run Try.prog w = .ok (.tuple #[.float .f64 x, .bool true]) w := by kernel_rfl
theorem ta_no (x : Nat) (w : World) : (Instr.typeAssert (.iface 53 (.float .f64 x)) 20 51 true).run Try.prog w = .ok (.tuple #[.float .f32 0, .bool false]) w := by kernel_rfl
attribute [local go_sem] ta_32 ta_64 ta_no ext70 ext71

def B01 (b : Bool) : Int := if b = true then 1 else 0

def isNum (k : FloatKind) (x : Nat) : Bool := k.format.order x x == some .eq


set_option maxRecDepth 100000 in
theorem bitsf32_num (x : Nat) (hx : x < 4294967296) (w : World) (h : isNum .f32 x = true) :
    Calls Try.prog 49 #[.float .f32 x] w fun e w' => e = .returned (.int .u64 x) ∧ w' = w := by
  have h1 : (FloatKind.f32.format.order x x != some .eq) = false := by unfold isNum at h; rw [bne, h]; rfl
  clear h
  go_enter Try.func49, Try.ntmps49
  go_wp2
  go_ret
  exact ⟨rfl, rfl⟩
set_option maxRecDepth 100000 in
theorem bitsf32_nan (x : Nat) (w : World) (h : isNum .f32 x = false) :
    Calls Try.prog 49 #[.float .f32 x] w fun e w' => e = .returned (.int .u64 2143289344) ∧ w' = w := by
  have h1 : (FloatKind.f32.format.order x x != some .eq) = true := by unfold isNum at h; rw [bne, h]; rfl
  clear h
  go_enter Try.func49, Try.ntmps49
  go_wp2
  go_ret
  exact ⟨rfl, rfl⟩


set_option maxRecDepth 100000 in
theorem bitsf64_num (x : Nat) (w : World) (h : isNum .f64 x = true) :
    Calls Try.prog 51 #[.float .f64 x] w fun e w' => e = .returned (.int .u64 x) ∧ w' = w := by
  have h1 : (FloatKind.f64.format.order x x != some .eq) = false := by unfold isNum at h; rw [bne, h]; rfl
  clear h
  go_enter Try.func51, Try.ntmps51
  go_wp2
  go_ret
  exact ⟨rfl, rfl⟩
set_option maxRecDepth 100000 in
theorem bitsf64_nan (x : Nat) (w : World) (h : isNum .f64 x = false) :
    Calls Try.prog 51 #[.float .f64 x] w fun e w' => e = .returned (.int .u64 9221120237041090560) ∧ w' = w := by
  have h1 : (FloatKind.f64.format.order x x != some .eq) = true := by unfold isNum at h; rw [bne, h]; rfl
  clear h
  go_enter Try.func51, Try.ntmps51
  go_wp2
  go_ret
  exact ⟨rfl, rfl⟩


set_option maxRecDepth 100000 in
theorem comparedf32_calls (n : Int) (h0 : 0 ≤ n) (h6 : n < 6) (x y : Nat) (w : World) :
    Calls Try.prog 45 #[.int .i64 n, .float .f32 x, .float .f32 y] w fun e w' => e = .returned (.int .u64 (B01 (cmpB .f32 n x y))) ∧ w' = w := by
  have hn : n = 0 ∨ n = 1 ∨ n = 2 ∨ n = 3 ∨ n = 4 ∨ n = 5 := by omega
  cases hb : cmpB .f32 n x y
  all_goals
    rcases hn with rfl | rfl | rfl | rfl | rfl | rfl
    all_goals
      simp only [cmpB] at hb
      try simp only [Int.reduceEq, if_false, if_true] at hb
      go_enter Try.func45, Try.ntmps45
      go_wp2
      go_ret
      exact ⟨rfl, rfl⟩


set_option maxRecDepth 100000 in
theorem comparedf64_calls (n : Int) (h0 : 0 ≤ n) (h6 : n < 6) (x y : Nat) (w : World) :
    Calls Try.prog 46 #[.int .i64 n, .float .f64 x, .float .f64 y] w fun e w' => e = .returned (.int .u64 (B01 (cmpB .f64 n x y))) ∧ w' = w := by
  have hn : n = 0 ∨ n = 1 ∨ n = 2 ∨ n = 3 ∨ n = 4 ∨ n = 5 := by omega
  cases hb : cmpB .f64 n x y
  all_goals
    rcases hn with rfl | rfl | rfl | rfl | rfl | rfl
    all_goals
      simp only [cmpB] at hb
      try simp only [Int.reduceEq, if_false, if_true] at hb
      go_enter Try.func46, Try.ntmps46
      go_wp2
      go_ret
      exact ⟨rfl, rfl⟩

end Go.Proofs.Ytapfapngcncaeaa.Fl
