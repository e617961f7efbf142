/- The walk of the law ArenaZero. -/
import Derived.Test.YtgjflboleognmaaAz2
namespace Go.Proofs.Ytgjflboleognmaa.Az
open Go.RowKit
/-- what the walk keeps: 'made' of b and of t. -/
structure Kp (w0 : World) (B T : Nat) (w : World) : Prop where
  b : w.cell? ⟨B, 0, none⟩ = some (.bool false)
  t : w.cell? ⟨T, 3, none⟩ = some (.bool false)
  lb : B < w.heap.size
  lt : T < w.heap.size
  bel : Below w0.heap.size w0 w
theorem Kp.step {w0 w w1 : World} {B T : Nat} (h : Kp w0 B T w) (hb : Below w.heap.size w w1) : Kp w0 B T w1 :=
  ⟨(hb.cell (p := ⟨B, 0, none⟩) h.lb).trans h.b, (hb.cell (p := ⟨T, 3, none⟩) h.lt).trans h.t, Nat.lt_of_lt_of_le h.lb hb.size, Nat.lt_of_lt_of_le h.lt hb.size, h.bel.trans (hb.mono h.bel.size)⟩
set_option maxRecDepth 100000 in
set_option maxHeartbeats 1000000 in
theorem arena_zero (a n : Int) (w : World) : Calls Try.prog 3 #[.int .u64 a, .int .i64 n] w fun e w' => e = .returned (.bool true) ∧ Below w.heap.size w w' := by
  go_enter Try.func3, Try.ntmps3
  go_wp2_with fail
  refine (new_nil _).mono ?_
  rintro e w1 ⟨rfl, hb⟩
  have K := (Kp.mk (w0 := w) (B := w.heap.size) (T := w.heap.size + 1) (by simp) (by simp) (by simp; try omega) (by simp; try omega) (b2 w _ _)).step hb
  clear hb
  go_wp2_with fail
  refine (new_zero _ _ K.t).mono ?_
  rintro e w1 ⟨rfl, hb⟩
  have K' := K.step hb
  clear hb K
  have K := K'
  clear K'
  go_wp2_with fail
  refine (struct_nil _ _).mono ?_
  rintro e w1 ⟨v, rfl, hb⟩
  have K' := K.step hb
  clear hb K
  have K := K'
  clear K'
  go_wp2_with fail
  refine (array_zero _ _ _ _ K.b).mono ?_
  rintro e w1 ⟨v, rfl, hb⟩
  have K' := K.step hb
  clear hb K
  have K := K'
  clear K'
  go_wp2_with fail
  refine (exn_nil _ _ _).mono ?_
  rintro e w1 ⟨v, rfl, hb⟩
  have K' := K.step hb
  clear hb K
  have K := K'
  clear K'
  go_wp2_with fail
  refine (get_zero _ _ _ _ _ K.lb K.b).mono ?_
  rintro e w1 ⟨rfl, hb⟩
  have K' := K.step hb
  clear hb K
  have K := K'
  clear K'
  go_wp2_with fail
  refine (keep_nil _).mono ?_
  rintro e w1 ⟨v, rfl, hb⟩
  have K' := K.step ((b1 _ _).trans (hb.mono (by simp)))
  clear hb K
  have K := K'
  clear K'
  go_wp2_with fail
  refine (set_zero _ _ _ _ K.lb K.b).mono ?_
  rintro e w1 ⟨rfl, hb⟩
  have K' := K.step hb
  clear hb K
  have K := K'
  clear K'
  go_wp2_with fail
  refine (setrefs_nil _ _).mono ?_
  rintro e w1 ⟨rfl, hb⟩
  have K' := K.step hb
  clear hb K
  have K := K'
  clear K'
  go_wp2_with fail
  refine (objects_zero _ _ K.b).mono ?_
  rintro e w1 ⟨rfl, hb⟩
  have K' := K.step hb
  clear hb K
  have K := K'
  clear K'
  go_wp2_with fail
  refine (top_nil _).mono ?_
  rintro e w1 ⟨rfl, hb⟩
  have K' := K.step hb
  clear hb K
  have K := K'
  clear K'
  go_wp2_with fail
  refine (words_zero _ _ K.b).mono ?_
  rintro e w1 ⟨rfl, hb⟩
  have K' := K.step hb
  clear hb K
  have K := K'
  clear K'
  go_wp2_with fail
  refine (free_nil _).mono ?_
  rintro e w1 ⟨rfl, hb⟩
  have K' := K.step hb
  clear hb K
  have K := K'
  clear K'
  go_wp2_with fail
  refine (copy_zero _ _ K.b).mono ?_
  rintro e w1 ⟨rfl, hb⟩
  have K' := K.step hb
  clear hb K
  have K := K'
  clear K'
  go_wp2_with fail
  go_ret
  exact ⟨rfl, K.bel⟩
theorem arena_zero_row (a n : Int) (w : World) {p q : Prop} (_ : p) (_ : q) : Calls Try.prog 3 #[.int .u64 a, .int .i64 n] w fun e w' => e = .returned (.bool true) ∧ Below w.heap.size w w' := arena_zero a n w
end Go.Proofs.Ytgjflboleognmaa.Az
