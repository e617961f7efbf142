/- The walk of ratchetlaw04.FnumOne and its plain law. -/
import Derived.Test.YtapfapngcncaeaaFl8
namespace Go.Proofs.Ytapfapngcncaeaa.FnumOneWalk
open Go.RowKit Go.Proofs.Ytapfapngcncaeaa.Fl Go.Proofs.Ytapfapngcncaeaa.Ie
set_option linter.unusedVariables false


theorem arith_lt32 {n : Int} {x y r : Nat} (h : arith .f32 n x y = some r) (hx : x < 4294967296) (hy : y < 4294967296) : r < 2 ^ 32 := by
  unfold arith at h
  split at h
  · exact Ieee.Format.add_lt _ h
  · split at h
    · exact Ieee.Format.sub_lt _ h
    · split at h
      · exact Ieee.Format.mul_lt _ h
      · split at h
        · exact Ieee.Format.div_lt _ h
        · split at h
          · unfold minF at h
            split at h
            · cases h
            · cases h; exact hx
            · cases h; exact hy
            · cases h; split <;> assumption
          · unfold maxF at h
            split at h
            · cases h
            · cases h; exact hy
            · cases h; exact hx
            · cases h; split <;> assumption
theorem arith_lt64 {n : Int} {x y r : Nat} (h : arith .f64 n x y = some r) (hx : x < 18446744073709551616) (hy : y < 18446744073709551616) : r < 2 ^ 64 := by
  unfold arith at h
  split at h
  · exact Ieee.Format.add_lt _ h
  · split at h
    · exact Ieee.Format.sub_lt _ h
    · split at h
      · exact Ieee.Format.mul_lt _ h
      · split at h
        · exact Ieee.Format.div_lt _ h
        · split at h
          · unfold minF at h
            split at h
            · cases h
            · cases h; exact hx
            · cases h; exact hy
            · cases h; split <;> assumption
          · unfold maxF at h
            split at h
            · cases h
            · cases h; exact hy
            · cases h; exact hx
            · cases h; split <;> assumption

/-- The one NaN, or none. -/
def Ok32 (x : Int) : Prop := x = 2143289344 ∨ (FloatKind.f32.format.order (x % 4294967296).toNat (x % 4294967296).toNat != some .eq) = false
theorem ok_outB32 (r : Nat) (_hr : r < 2 ^ 32) : Ok32 (outB .f32 r) := by
  unfold outB Ok32
  cases h : isNum .f32 r
  · exact .inl rfl
  · right
    simp only [if_true]
    rw [show ((r : Int) % 4294967296).toNat = r by omega]
    unfold isNum at h
    rw [bne, h]; rfl
theorem ok_outv32 (o : Option Nat) (ho : ∀ r, o = some r → r < 2 ^ 32) : Ok32 (outv .f32 o) := by
  cases o with
  | none => exact .inl rfl
  | some r => exact ok_outB32 r (ho r rfl)
def OkPost32 (w : World) (e : Ending) (w' : World) : Prop := ∃ x, e = .returned (.tuple #[.int .u64 x, .int .i64 0]) ∧ Ok32 x ∧ Below w.heap.size w w'
theorem bin32 (op a b : Int) (w : World) (h0 : 146 ≤ op) (h1 : op < 152) (ha : a < 18446744073709551616) (hb : b < 18446744073709551616) : Calls Try.prog 29 #[.int .i64 op, .int .u64 a, .int .u64 b] w (OkPost32 w) :=
  (binary_32 op a b w h0 h1).mono fun _ _ ⟨he, hw⟩ => ⟨_, he, ok_outv32 _ (fun r hr => arith_lt32 hr (by omega) (by omega)), hw⟩
theorem un32 (op a : Int) (w : World) (h0 : 141 ≤ op) (h1 : op < 146) (ha : a < 18446744073709551616) : Calls Try.prog 34 #[.int .i64 op, .int .u64 a] w (OkPost32 w) := by
  by_cases h : op = 145
  · subst h
    exact (unary_32s a w).mono fun _ _ ⟨v, he, ⟨_, _, r, _, _, hr, hv⟩, hw⟩ => ⟨_, he, by rw [hv]; exact ok_outB32 r (conv_lt (s := .f64) (k := .f32) (by decide) hr), hw⟩
  · exact (unary_32 op a h0 (by omega) w).mono fun _ _ ⟨v, he, ⟨_, _, r, _, _, hr, hv⟩, hw⟩ => ⟨_, he, by rw [hv]; exact ok_outB32 r (conv_lt (s := .f64) (k := .f32) (by decide) hr), hw⟩

set_option maxRecDepth 100000 in
theorem law32 (a b k : Int) (ha : a < 18446744073709551616) (hb : b < 18446744073709551616) (hk0 : 0 ≤ k) (hk1 : k ≤ 255) (hk : (k % 2 == 1) = false) (w : World) :
    Calls Try.prog 13 #[.int .u64 a, .int .u64 b, .int .u8 k] w fun r w' => r = .returned (.bool true) ∧ Below w.heap.size w w' := by
  go_enter Try.func13, Try.ntmps13
  go_wp2_with fail
  refine (alive_calls _).mono ?_; rintro r w0 ⟨rfl, hb0⟩
  go_wp2_with fail
  refine (canon_32 _).mono ?_; rintro r w' ⟨rfl, rfl⟩
  go_wp2_with fail
  refine (bin32 _ _ _ _ (by omega) (by omega) ha hb).mono ?_; rintro r w1 ⟨x, rfl, hx, hb1⟩
  have HX := Lib.hid hx
  clear hx
  go_wp2_with fail
  refine (un32 _ _ _ (by omega) (by omega) ha).mono ?_; rintro r w2 ⟨y, rfl, hy, hb2⟩
  have HY := Lib.hid hy
  clear hy
  rcases HX.out with rfl | hx
  all_goals
    rcases HY.out with rfl | hy
    all_goals
      clear HX HY
      go_wp2_with fail
      refine (nan_32 _ _).mono ?_; rintro r w' ⟨rfl, rfl⟩
      go_wp2_with fail
      refine (nan_32 _ _).mono ?_; rintro r w' ⟨rfl, rfl⟩
      go_wp2_with fail
      all_goals
        go_ret
        have s0 := hb0.size
        have s1 := hb1.size
        exact ⟨rfl, (hb0.trans (hb1.mono (by omega))).trans (hb2.mono (by omega))⟩


/-- The one NaN, or none. -/
def Ok64 (x : Int) : Prop := x = 9221120237041090560 ∨ (FloatKind.f64.format.order x.toNat x.toNat != some .eq) = false
theorem ok_outB64 (r : Nat) (_hr : r < 2 ^ 64) : Ok64 (outB .f64 r) := by
  unfold outB Ok64
  cases h : isNum .f64 r
  · exact .inl rfl
  · right
    simp only [if_true]
    rw [show (r : Int).toNat = r by simp]
    unfold isNum at h
    rw [bne, h]; rfl
theorem ok_outv64 (o : Option Nat) (ho : ∀ r, o = some r → r < 2 ^ 64) : Ok64 (outv .f64 o) := by
  cases o with
  | none => exact .inl rfl
  | some r => exact ok_outB64 r (ho r rfl)
def OkPost64 (w : World) (e : Ending) (w' : World) : Prop := ∃ x, e = .returned (.tuple #[.int .u64 x, .int .i64 0]) ∧ Ok64 x ∧ Below w.heap.size w w'
theorem bin64 (op a b : Int) (w : World) (h0 : 160 ≤ op) (h1 : op < 166) (ha : a < 18446744073709551616) (hb : b < 18446744073709551616) : Calls Try.prog 29 #[.int .i64 op, .int .u64 a, .int .u64 b] w (OkPost64 w) :=
  (binary_64 op a b w h0 h1).mono fun _ _ ⟨he, hw⟩ => ⟨_, he, ok_outv64 _ (fun r hr => arith_lt64 hr (by omega) (by omega)), hw⟩
theorem un64 (op a : Int) (w : World) (h0 : 155 ≤ op) (h1 : op < 160) (ha : a < 18446744073709551616) : Calls Try.prog 34 #[.int .i64 op, .int .u64 a] w (OkPost64 w) := by
  by_cases h : op = 159
  · subst h
    exact (unary_64s a w).mono fun _ _ ⟨v, he, ⟨r, hr, hv⟩, hw⟩ => ⟨_, he, by rw [hv]; exact ok_outB64 r (res_lt (by simpa using hr)), hw⟩
  · exact (unary_64 op a ha h0 (by omega) w).mono fun _ _ ⟨v, he, ⟨r, hr, hv⟩, hw⟩ => ⟨_, he, by rw [hv]; exact ok_outB64 r (round_lt (by rw [if_neg (by omega)] at hr; exact hr)), hw⟩

set_option maxRecDepth 100000 in
theorem law64 (a b k : Int) (ha : a < 18446744073709551616) (hb : b < 18446744073709551616) (hk0 : 0 ≤ k) (hk1 : k ≤ 255) (hk : (k % 2 == 1) = true) (w : World) :
    Calls Try.prog 13 #[.int .u64 a, .int .u64 b, .int .u8 k] w fun r w' => r = .returned (.bool true) ∧ Below w.heap.size w w' := by
  go_enter Try.func13, Try.ntmps13
  go_wp2_with fail
  refine (alive_calls _).mono ?_; rintro r w0 ⟨rfl, hb0⟩
  go_wp2_with fail
  refine (canon_64 _).mono ?_; rintro r w' ⟨rfl, rfl⟩
  go_wp2_with fail
  refine (bin64 _ _ _ _ (by omega) (by omega) ha hb).mono ?_; rintro r w1 ⟨x, rfl, hx, hb1⟩
  have HX := Lib.hid hx
  clear hx
  go_wp2_with fail
  refine (un64 _ _ _ (by omega) (by omega) ha).mono ?_; rintro r w2 ⟨y, rfl, hy, hb2⟩
  have HY := Lib.hid hy
  clear hy
  rcases HX.out with rfl | hx
  all_goals
    rcases HY.out with rfl | hy
    all_goals
      clear HX HY
      go_wp2_with fail
      refine (nan_64 _ _).mono ?_; rintro r w' ⟨rfl, rfl⟩
      go_wp2_with fail
      refine (nan_64 _ _).mono ?_; rintro r w' ⟨rfl, rfl⟩
      go_wp2_with fail
      all_goals
        go_ret
        have s0 := hb0.size
        have s1 := hb1.size
        exact ⟨rfl, (hb0.trans (hb1.mono (by omega))).trans (hb2.mono (by omega))⟩


theorem walk (a b k : Int) (w : World) (ha : (Lit.int .u64 a).wf = true) (hb : (Lit.int .u64 b).wf = true) (hk : (Lit.int .u8 k).wf = true) :
    Calls Try.prog 13 #[.int .u64 a, .int .u64 b, .int .u8 k] w fun r w' => r = .returned (.bool true) ∧ Below w.heap.size w w' := by
  simp [Lit.wf, IntKind.min, IntKind.max, IntKind.signed, IntKind.bits] at ha hb hk
  by_cases h : k % 2 = 1
  · exact law64 a b k (by omega) (by omega) hk.1 hk.2 (by simpa using h) w
  · exact law32 a b k (by omega) (by omega) hk.1 hk.2 (by simpa using h) w
end Go.Proofs.Ytapfapngcncaeaa.FnumOneWalk
