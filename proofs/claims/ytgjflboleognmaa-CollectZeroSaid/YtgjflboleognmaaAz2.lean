/- Get, Set, Values, Refs, SetRefs on an arena that nobody made. -/
import Derived.Test.YtgjflboleognmaaAz
import Derived.LoopN
namespace Go.Proofs.Ytgjflboleognmaa.Az
open Go.RowKit
set_option maxRecDepth 100000 in
theorem get_zero (b : Nat) (a i : Int) (s : Bool) (w : World) (hb : b < w.heap.size) (hm : w.cell? ⟨b, 0, none⟩ = some (.bool false)) : Calls Try.prog 9 #[.pointer (some ⟨b, 0, none⟩), .int .u64 a, .int .u64 i, .bool s] w (Ret (.tuple #[.agg #[.int .i64 0, .int .u64 0, .int .i64 0, .int .u64 0, .bool false], .int .i64 7]) w) := by
  go_enter Try.func9, Try.ntmps9
  go_wp2_with (go_at_call 34; refine (find_zero b a _ (by first | assumption | (simp; omega)) (by first | assumption | go_keep)).mono ?_; rintro e w1 ⟨rfl, hb1⟩; have c0 := (hb1.cell (p := ⟨w.heap.size, 0, none⟩) (by simp)); have c1 := (hb1.cell (p := ⟨w.heap.size, 1, none⟩) (by simp)); have c2 := (hb1.cell (p := ⟨w.heap.size, 2, none⟩) (by simp)); have c3 := (hb1.cell (p := ⟨w.heap.size, 3, none⟩) (by simp)); have c4 := (hb1.cell (p := ⟨w.heap.size, 4, none⟩) (by simp)); have f0 := (hb1.frozen (p := ⟨w.heap.size, 0, none⟩) (by simp)); have f1 := (hb1.frozen (p := ⟨w.heap.size, 1, none⟩) (by simp)); have f2 := (hb1.frozen (p := ⟨w.heap.size, 2, none⟩) (by simp)); have f3 := (hb1.frozen (p := ⟨w.heap.size, 3, none⟩) (by simp)); have f4 := (hb1.frozen (p := ⟨w.heap.size, 4, none⟩) (by simp)); simp at c0 c1 c2 c3 c4 f0 f1 f2 f3 f4; have hlt : w.heap.size < w1.heap.size := (by have hs := hb1.size; simp at hs; omega); have hne : w.heap.size ≠ w1.heap.size := Nat.ne_of_lt hlt; have hne2 : w1.heap.size ≠ w.heap.size := Ne.symm hne)
  have hB : Below w.heap.size w w1 := (b1 w _).trans (hb1.mono (by simp))
  refine bodyPost_ret (v := .tuple #[.agg #[.int .i64 0, .int .u64 0, .int .i64 0, .int .u64 0, .bool false], .int .i64 7]) ?_ rfl ⟨rfl, ?_⟩
  · simp [results, Try.results9, go_sem, c0, c1, c2, c3, c4, hlt]
  · exact ((((((hB.setCell (Nat.le_refl _) _).setCell (Nat.le_refl _) _).setCell (Nat.le_refl _) _).setCell (Nat.le_refl _) _).setCell (Nat.le_refl _) _).alloc (by simp; omega) _)
set_option maxRecDepth 100000 in
theorem values_nil (a : Int) (w : World) : Calls Try.prog 49 #[.pointer none, .int .u64 a] w (Ret (.tuple #[.slice none 0 0, .int .i64 7]) w) := by
  go_enter Try.func49, Try.ntmps49
  go_wp2_with (go_at_call 34; refine (find_nil a _).mono ?_; rintro e w1 ⟨rfl, hb1⟩)
  go_ret2
  exact ⟨rfl, hb1.trans (b1 _ _ |>.mono hb1.size)⟩
set_option maxRecDepth 100000 in
theorem refs_nil (a : Int) (w : World) : Calls Try.prog 39 #[.pointer none, .int .u64 a] w (Ret (.tuple #[.slice none 0 0, .int .i64 7]) w) := by
  go_enter Try.func39, Try.ntmps39
  go_wp2_with (go_at_call 49; refine (values_nil a _).mono ?_; rintro e w1 ⟨rfl, hb1⟩)
  refine wp_loop_rounds 1 ?_
  rw [rounds_succ]
  go_wp2
  go_ret2
  exact ⟨rfl, hb1⟩
set_option maxRecDepth 100000 in
theorem setrefs_nil (a : Int) (w : World) : Calls Try.prog 12 #[.pointer none, .int .u64 a, .slice none 0 0] w (Ret (.int .i64 7) w) := by
  go_enter Try.func12, Try.ntmps12
  go_wp2_with (go_at_call 39; refine (refs_nil a _).mono ?_; rintro e w1 ⟨rfl, hb1⟩)
  go_ret
  exact ⟨rfl, hb1⟩
set_option maxRecDepth 100000 in
theorem set_zero (b : Nat) (a i : Int) (w : World) (hb : b < w.heap.size) (hm : w.cell? ⟨b, 0, none⟩ = some (.bool false)) : Calls Try.prog 11 #[.pointer (some ⟨b, 0, none⟩), .int .u64 a, .int .u64 i, .agg #[.int .i64 0, .int .u64 0, .int .i64 0, .int .u64 0, .bool false]] w (Ret (.int .i64 7) w) := by
  go_enter Try.func11, Try.ntmps11
  go_wp2_with (go_at_call 34; refine (find_zero b a _ (by first | assumption | (simp; omega)) (by first | assumption | go_keep)).mono ?_; rintro e w1 ⟨rfl, hb1⟩)
  go_ret
  exact ⟨rfl, ((b1 w _).trans (hb1.mono (by simp))).alloc (by have := hb1.size; simp at this; omega) _⟩
end Go.Proofs.Ytgjflboleognmaa.Az
