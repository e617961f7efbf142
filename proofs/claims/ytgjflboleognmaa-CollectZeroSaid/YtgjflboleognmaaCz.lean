/- Contracts of collect's functions on an arena that nobody made. -/
import Derived.Test.YtgjflboleognmaaAz3
namespace Go.Proofs.Ytgjflboleognmaa.Az
open Go.RowKit
def NoA (p : Option Addr) (w : World) : Prop := p = none ∨ ∃ b, p = some ⟨b, 0, none⟩ ∧ b < w.heap.size ∧ w.cell? ⟨b, 0, none⟩ = some (.bool false)
theorem NoA.below {p : Option Addr} {w w1 : World} (h : NoA p w) (hb : Below w.heap.size w w1) : NoA p w1 := by
  rcases h with h | ⟨b, h, hl, hc⟩
  · exact .inl h
  · exact .inr ⟨b, h, Nat.lt_of_lt_of_le hl hb.size, (hb.cell (p := ⟨b, 0, none⟩) hl).trans hc⟩
set_option maxRecDepth 100000 in
theorem copy_nil (w : World) : Calls Try.prog 17 #[.pointer none] w (Ret (.pointer none) w) := by
  go_enter Try.func17, Try.ntmps17
  go_wp2_with (go_at_call 25; refine (none_nil _).mono ?_; rintro e w' ⟨rfl, rfl⟩)
  go_ret
  exact ⟨rfl, Below.refl _ _⟩
theorem copy_no (p : Option Addr) (w : World) (h : NoA p w) : Calls Try.prog 17 #[.pointer p] w (Ret (.pointer none) w) := by
  rcases h with rfl | ⟨b, rfl, _, hc⟩
  · exact copy_nil w
  · exact copy_zero b w hc
set_option maxRecDepth 100000 in
theorem asked_no (p : Option Addr) (v : Value) (w : World) (h : NoA p w) : Calls Try.prog 41 #[.pointer p, v] w (Ret (.tuple #[.map none, .int .i64 7]) w) := by
  go_enter Try.func41, Try.ntmps41
  go_wp2_with (go_at_call 17; refine (copy_no p _ h).mono ?_; rintro e w1 ⟨rfl, hb1⟩)
  go_ret2
  exact ⟨rfl, hb1⟩
set_option maxRecDepth 100000 in
theorem live_no (p : Option Addr) (v : Value) (w : World) (h : NoA p w) : Calls Try.prog 19 #[.pointer p, v] w (Ret (.tuple #[.slice none 0 0, .int .i64 7]) w) := by
  go_enter Try.func19, Try.ntmps19
  go_wp2_with (go_at_call 41; refine (asked_no p _ _ h).mono ?_; rintro e w1 ⟨rfl, hb1⟩)
  go_ret2
  exact ⟨rfl, hb1⟩
set_option maxRecDepth 100000 in
theorem sound_no (p : Option Addr) (w : World) (h : NoA p w) : Calls Try.prog 23 #[.pointer p] w (Ret (.bool false) w) := by
  go_enter Try.func23, Try.ntmps23
  go_wp2_with (go_at_call 41; refine (asked_no p _ _ h).mono ?_; rintro e w1 ⟨rfl, hb1⟩)
  go_ret
  exact ⟨rfl, hb1⟩
set_option maxRecDepth 100000 in
theorem graph_no (p : Option Addr) (v : Value) (w : World) (h : NoA p w) : Calls Try.prog 22 #[.pointer p, v] w (Ret (.tuple #[.slice none 0 0, .slice none 0 0, .int .i64 7]) w) := by
  go_enter Try.func22, Try.ntmps22
  go_wp2_with (go_at_call 41; refine (asked_no p _ _ (h.below (by first | exact Below.refl _ _ | exact b1 _ _))).mono ?_; rintro e w1 ⟨rfl, hb1⟩)
  go_ret3
  exact ⟨rfl, hb1.trans ((b1 _ _).mono hb1.size)⟩
set_option maxRecDepth 100000 in
theorem run_no (p : Option Addr) (v : Value) (w : World) (h : NoA p w) : Calls Try.prog 20 #[.pointer p, v] w (Ret (.tuple #[.slice none 0 0, .agg #[.int .i64 0, .int .i64 0, .int .i64 0, .int .i64 0], .int .i64 7]) w) := by
  go_enter Try.func20, Try.ntmps20
  go_wp2_with (go_at_call 41; refine (asked_no p _ _ (h.below (b1 _ _))).mono ?_; rintro e w1 ⟨rfl, hb1⟩; have c0 := (hb1.cell (p := ⟨w.heap.size, 0, none⟩) (by simp)); have c1 := (hb1.cell (p := ⟨w.heap.size, 1, none⟩) (by simp)); have c2 := (hb1.cell (p := ⟨w.heap.size, 2, none⟩) (by simp)); have c3 := (hb1.cell (p := ⟨w.heap.size, 3, none⟩) (by simp)); have f0 := (hb1.frozen (p := ⟨w.heap.size, 0, none⟩) (by simp)); have f1 := (hb1.frozen (p := ⟨w.heap.size, 1, none⟩) (by simp)); have f2 := (hb1.frozen (p := ⟨w.heap.size, 2, none⟩) (by simp)); have f3 := (hb1.frozen (p := ⟨w.heap.size, 3, none⟩) (by simp)); simp at c0 c1 c2 c3 f0 f1 f2 f3)
  have hB : Below w.heap.size w w1 := (b1 w _).trans (hb1.mono (by simp))
  refine bodyPost_ret (v := .tuple #[.slice none 0 0, .agg #[.int .i64 0, .int .i64 0, .int .i64 0, .int .i64 0], .int .i64 7]) ?_ rfl ⟨rfl, ?_⟩
  · simp [results, Try.results20, go_sem, c0, c1, c2, c3]
  · exact ((((hB.setCell (Nat.le_refl _) _).setCell (Nat.le_refl _) _).setCell (Nat.le_refl _) _).setCell (Nat.le_refl _) _)
set_option maxRecDepth 100000 in
theorem need_no (p : Option Addr) (v : Value) (n : Int) (w : World) (h : NoA p w) : Calls Try.prog 21 #[.pointer p, v, .int .i64 n] w (Ret (.tuple #[.slice none 0 0, .bool false, .agg #[.int .i64 0, .int .i64 0, .int .i64 0, .int .i64 0], .int .i64 7]) w) := by
  go_enter Try.func21, Try.ntmps21
  go_wp2_with (go_at_call 41; refine (asked_no p _ _ (h.below (b1 _ _))).mono ?_; rintro e w1 ⟨rfl, hb1⟩; have c0 := (hb1.cell (p := ⟨w.heap.size, 0, none⟩) (by simp)); have c1 := (hb1.cell (p := ⟨w.heap.size, 1, none⟩) (by simp)); have c2 := (hb1.cell (p := ⟨w.heap.size, 2, none⟩) (by simp)); have c3 := (hb1.cell (p := ⟨w.heap.size, 3, none⟩) (by simp)); have f0 := (hb1.frozen (p := ⟨w.heap.size, 0, none⟩) (by simp)); have f1 := (hb1.frozen (p := ⟨w.heap.size, 1, none⟩) (by simp)); have f2 := (hb1.frozen (p := ⟨w.heap.size, 2, none⟩) (by simp)); have f3 := (hb1.frozen (p := ⟨w.heap.size, 3, none⟩) (by simp)); simp at c0 c1 c2 c3 f0 f1 f2 f3)
  have hB : Below w.heap.size w w1 := (b1 w _).trans (hb1.mono (by simp))
  refine bodyPost_ret (v := .tuple #[.slice none 0 0, .bool false, .agg #[.int .i64 0, .int .i64 0, .int .i64 0, .int .i64 0], .int .i64 7]) ?_ rfl ⟨rfl, ?_⟩
  · simp [results, Try.results21, go_sem, c0, c1, c2, c3]
  · exact ((((hB.setCell (Nat.le_refl _) _).setCell (Nat.le_refl _) _).setCell (Nat.le_refl _) _).setCell (Nat.le_refl _) _)
end Go.Proofs.Ytgjflboleognmaa.Az
