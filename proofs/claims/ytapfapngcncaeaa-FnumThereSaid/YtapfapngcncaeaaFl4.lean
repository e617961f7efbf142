/- Contracts of fnum's Compare and Binary. -/
import Derived.Test.YtapfapngcncaeaaFl3
namespace Go.Proofs.Ytapfapngcncaeaa.Fl
open Go.RowKit Go.Proofs.Ytapfapngcncaeaa.Ie

theorem bcell {W w1 : World} (hb : Below W.heap.size W w1) : (∀ b o, b < W.heap.size → w1.cell? ⟨b, o, none⟩ = W.cell? ⟨b, o, none⟩) ∧ (∀ b o, b < W.heap.size → w1.frozen? ⟨b, o, none⟩ = W.frozen? ⟨b, o, none⟩) :=
  ⟨fun b o h => hb.cell (p := ⟨b, o, none⟩) h, fun b o h => hb.frozen (p := ⟨b, o, none⟩) h⟩
theorem below_drewN {B : Nat} {w w1 : World} (h : Below B w w1) (n : Nat) : Below B w (w1.drewN n) := ⟨h.os, h.tape, h.output, h.size, h.block⟩

/-- What is handed back: the word, or the one NaN. -/
def outv (k : FloatKind) (o : Option Nat) : Int :=
  match o with
  | some v => if isNum k v = true then (v : Int) else (match k with | .f32 => 2143289344 | .f64 => 9221120237041090560)
  | none => match k with | .f32 => 2143289344 | .f64 => 9221120237041090560
theorem outv_num {k : FloatKind} {o : Option Nat} {r : Nat} (h : Res k o r) (hn : isNum k r = true) : outv k o = r := by
  rcases h with rfl | ⟨rfl, h, _⟩
  · simp [outv, hn]
  · exfalso
    unfold isNum at hn
    rw [order_self_eq _ (by cases k <;> decide)] at hn
    simp at hn; omega
theorem outv_nan32 {o : Option Nat} {r : Nat} (h : Res .f32 o r) (hn : isNum .f32 r = false) : outv .f32 o = 2143289344 := by
  rcases h with rfl | ⟨rfl, h, _⟩ <;> simp [outv, hn]
theorem outv_nan64 {o : Option Nat} {r : Nat} (h : Res .f64 o r) (hn : isNum .f64 r = false) : outv .f64 o = 9221120237041090560 := by
  rcases h with rfl | ⟨rfl, h, _⟩ <;> simp [outv, hn]
theorem ieee_lt32 {n : Int} {x y r : Nat} (h : Res .f32 (arith .f32 n x y) r) (hx : x < 4294967296) (hy : y < 4294967296) : r < 4294967296 := by
  rcases h with h | ⟨_, _, h⟩
  · unfold arith at h
    split at h
    · exact Ieee.Format.add_lt _ h
    · split at h
      · exact Ieee.Format.sub_lt _ h
      · split at h
        · exact Ieee.Format.mul_lt _ h
        · split at h
          · exact Ieee.Format.div_lt _ h
          · split at h
            · unfold minF at h
              split at h
              · cases h
              · cases h; exact hx
              · cases h; exact hy
              · cases h; split <;> assumption
            · unfold maxF at h
              split at h
              · cases h
              · cases h; exact hy
              · cases h; exact hx
              · cases h; split <;> assumption
  · exact h

set_option maxRecDepth 100000 in
theorem compare_32 (op a b : Int) (w : World) (h0 : 91 ≤ op) (h1 : op < 97) :
    Calls Try.prog 27 #[.int .i64 op, .int .u64 a, .int .u64 b] w fun e w' => e = .returned (.tuple #[.int .u64 (B01 (cmpB .f32 (op - 91) (a % 4294967296).toNat (b % 4294967296).toNat)), .int .i64 0]) ∧ Below w.heap.size w w' := by
  go_enter Try.func27, Try.ntmps27
  go_wp2_with (go_at_call 44; refine (table_calls _).mono ?_; rintro e w1 ⟨rfl, hb⟩)
  go_quiet ((first | (go_at_call 36; exact Calls.quiet_of_same (single_calls _ _)) | (go_at_call 45; exact Calls.quiet_of_same (comparedf32_calls _ (by omega) (by omega) _ _ _))))
  go_wp2
  go_ret2
  exact ⟨rfl, below_drewN (hb.alloc hb.size _) _⟩
set_option maxRecDepth 100000 in
theorem compare_64 (op a b : Int) (w : World) (h0 : 97 ≤ op) (h1 : op < 103) :
    Calls Try.prog 27 #[.int .i64 op, .int .u64 a, .int .u64 b] w fun e w' => e = .returned (.tuple #[.int .u64 (B01 (cmpB .f64 (op - 97) a.toNat b.toNat)), .int .i64 0]) ∧ Below w.heap.size w w' := by
  go_enter Try.func27, Try.ntmps27
  go_wp2_with (go_at_call 44; refine (table_calls _).mono ?_; rintro e w1 ⟨rfl, hb⟩)
  go_quiet ((first | (go_at_call 37; exact Calls.quiet_of_same (double_calls _ _)) | (go_at_call 46; exact Calls.quiet_of_same (comparedf64_calls _ (by omega) (by omega) _ _ _))))
  go_wp2
  go_ret2
  exact ⟨rfl, below_drewN (hb.alloc hb.size _) _⟩
set_option maxRecDepth 100000 in
theorem compare_no (op a b : Int) (w : World) (h : op < 91 ∨ 103 ≤ op) :
    Calls Try.prog 27 #[.int .i64 op, .int .u64 a, .int .u64 b] w fun e w' => e = .returned (.tuple #[.int .u64 0, .int .i64 1]) ∧ Below w.heap.size w w' := by
  rcases h with h | h
  · go_enter Try.func27, Try.ntmps27
    go_wp2_with (go_at_call 44; refine (table_calls _).mono ?_; rintro e w1 ⟨rfl, hb⟩)
    go_ret2
    exact ⟨rfl, hb.alloc hb.size _⟩
  · go_enter Try.func27, Try.ntmps27
    go_wp2_with (go_at_call 44; refine (table_calls _).mono ?_; rintro e w1 ⟨rfl, hb⟩)
    go_ret2
    exact ⟨rfl, hb.alloc hb.size _⟩

set_option maxRecDepth 100000 in
theorem binary_32 (op a b : Int) (w : World) (h0 : 146 ≤ op) (h1 : op < 152) :
    Calls Try.prog 29 #[.int .i64 op, .int .u64 a, .int .u64 b] w fun e w' => e = .returned (.tuple #[.int .u64 (outv .f32 (arith .f32 (op - 146) (a % 4294967296).toNat (b % 4294967296).toNat)), .int .i64 0]) ∧ Below w.heap.size w w' := by
  go_enter Try.func29, Try.ntmps29
  go_wp2_with (first | (go_at_call 44; refine (table_calls _).mono ?_; rintro e w1 ⟨rfl, hb⟩) | (go_at_call 36; refine (single_calls _ _).mono ?_; rintro e w' ⟨rfl, rfl⟩) | (go_at_call 50; refine (sumf32_calls _ (by omega) (by omega) _ _ _).mono ?_; rintro e w' ⟨r, c, rfl, hR, rfl⟩; have HR := Lib.hid hR; clear hR; cases hn : isNum .f32 r; all_goals (have HN := Lib.hid hn; clear hn)) | (go_at_call 49; refine (bitsf32_nan _ _ HN.out).mono ?_; rintro e w' ⟨rfl, rfl⟩)| (go_at_call 49; refine (bitsf32_num _ (ieee_lt32 HR.out (by omega) (by omega)) _ HN.out).mono ?_; rintro e w' ⟨rfl, rfl⟩))
  · go_ret2
    exact ⟨by rw [outv_nan32 HR.out HN.out]; rfl, below_drewN (hb.alloc hb.size _) _⟩
  · go_ret2
    exact ⟨by rw [outv_num HR.out HN.out]; rfl, below_drewN (hb.alloc hb.size _) _⟩
set_option maxRecDepth 100000 in
theorem binary_32s (a b : Int) (w : World) :
    Calls Try.prog 29 #[.int .i64 152, .int .u64 a, .int .u64 b] w fun e w' => e = .returned (.tuple #[.int .u64 (bits .or .u64 (bits .and .u64 a 2147483647) (bits .and .u64 b 2147483648)), .int .i64 0]) ∧ Below w.heap.size w w' := by
  go_enter Try.func29, Try.ntmps29
  go_wp2_with (first | (go_at_call 44; refine (table_calls _).mono ?_; rintro e w1 ⟨rfl, hb⟩))
  go_ret2
  exact ⟨rfl, (hb.alloc hb.size _)⟩

set_option maxRecDepth 100000 in
theorem binary_64 (op a b : Int) (w : World) (h0 : 160 ≤ op) (h1 : op < 166) :
    Calls Try.prog 29 #[.int .i64 op, .int .u64 a, .int .u64 b] w fun e w' => e = .returned (.tuple #[.int .u64 (outv .f64 (arith .f64 (op - 160) a.toNat b.toNat)), .int .i64 0]) ∧ Below w.heap.size w w' := by
  go_enter Try.func29, Try.ntmps29
  go_wp2_with (first | (go_at_call 44; refine (table_calls _).mono ?_; rintro e w1 ⟨rfl, hb⟩) | (go_at_call 37; refine (double_calls _ _).mono ?_; rintro e w' ⟨rfl, rfl⟩) | (go_at_call 52; refine (sumf64_calls _ (by omega) (by omega) _ _ _).mono ?_; rintro e w' ⟨r, c, rfl, hR, rfl⟩; have HR := Lib.hid hR; clear hR; cases hn : isNum .f64 r; all_goals (have HN := Lib.hid hn; clear hn)) | (go_at_call 51; refine (bitsf64_nan _ _ HN.out).mono ?_; rintro e w' ⟨rfl, rfl⟩)| (go_at_call 51; refine (bitsf64_num _ _ HN.out).mono ?_; rintro e w' ⟨rfl, rfl⟩))
  · go_ret2
    exact ⟨by rw [outv_nan64 HR.out HN.out]; rfl, below_drewN (hb.alloc hb.size _) _⟩
  · go_ret2
    exact ⟨by rw [outv_num HR.out HN.out]; rfl, below_drewN (hb.alloc hb.size _) _⟩
set_option maxRecDepth 100000 in
theorem binary_64s (a b : Int) (w : World) :
    Calls Try.prog 29 #[.int .i64 166, .int .u64 a, .int .u64 b] w fun e w' => e = .returned (.tuple #[.int .u64 (bits .or .u64 (bits .and .u64 a 9223372036854775807) (bits .and .u64 b 9223372036854775808)), .int .i64 0]) ∧ Below w.heap.size w w' := by
  go_enter Try.func29, Try.ntmps29
  go_wp2_with (first | (go_at_call 44; refine (table_calls _).mono ?_; rintro e w1 ⟨rfl, hb⟩))
  go_ret2
  exact ⟨rfl, (hb.alloc hb.size _)⟩

set_option maxRecDepth 100000 in
theorem binary_no (op a b : Int) (w : World) (h : op < 146 ∨ (153 ≤ op ∧ op < 160) ∨ 167 ≤ op) :
    Calls Try.prog 29 #[.int .i64 op, .int .u64 a, .int .u64 b] w fun e w' => e = .returned (.tuple #[.int .u64 0, .int .i64 1]) ∧ Below w.heap.size w w' := by
  rcases h with h | ⟨h, h'⟩ | h
  all_goals
    go_enter Try.func29, Try.ntmps29
    go_wp2_with (go_at_call 44; refine (table_calls _).mono ?_; rintro e w1 ⟨rfl, hb⟩)
    go_ret2
    exact ⟨rfl, hb.alloc hb.size _⟩
end Go.Proofs.Ytapfapngcncaeaa.Fl
