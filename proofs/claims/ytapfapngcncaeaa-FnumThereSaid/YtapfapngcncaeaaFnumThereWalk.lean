/- The walk of ratchetlaw04.FnumThere and its plain law. -/
import Derived.Test.YtapfapngcncaeaaFl11
namespace Go.Proofs.Ytapfapngcncaeaa.FnumThereWalk
open Ieee Go.RowKit Go.Proofs.Ytapfapngcncaeaa.Fl Go.Proofs.Ytapfapngcncaeaa.Ie Go.Proofs.Ytapfapngcncaeaa.Rf

theorem conv_fix {s k : FloatKind} {x r v : Nat} (h : ConvRes s k x r) (e : floatToFloatBits s x k = some v) : r = v := by
  rcases h with h | ⟨h, _⟩
  · rw [e] at h; cases h; rfl
  · rw [e] at h; cases h
theorem down_up (x r : Nat) (hx : rung FloatKind.f32.format x < FloatKind.f32.format.infRung) (hr : r < FloatKind.f64.format.infRung)
    (hm : mag FloatKind.f64.format r = sgf FloatKind.f32.format (rung FloatKind.f32.format x) * 2 ^ (exf FloatKind.f32.format (rung FloatKind.f32.format x) + 925)) :
    floatToFloatBits .f64 (FloatKind.f64.format.word (sgn FloatKind.f32.format x) r) .f32 = some (FloatKind.f32.format.word (sgn FloatKind.f32.format x) (rung FloatKind.f32.format x)) := by
  have h1 := nearest_scale FloatKind.f32.format (sgn FloatKind.f32.format x) (sgf FloatKind.f64.format r) (exf FloatKind.f64.format r) (FloatKind.f64.format.leastPlace + exf FloatKind.f64.format r)
  have h2 := nearest_scale FloatKind.f32.format (sgn FloatKind.f32.format x) (sgf FloatKind.f32.format (rung FloatKind.f32.format x)) (exf FloatKind.f32.format (rung FloatKind.f32.format x) + 925) (-149 + (exf FloatKind.f32.format (rung FloatKind.f32.format x) : Int))
  have h3 := nearest_exact FloatKind.f32.format (sgn FloatKind.f32.format x) (rung FloatKind.f32.format x) _ _ hx (mag_parts FloatKind.f32.format (rung FloatKind.f32.format x)).symm
  have hp := mag_parts FloatKind.f64.format r
  have hpl : FloatKind.f64.format.leastPlace + (exf FloatKind.f64.format r : Int) - (exf FloatKind.f64.format r : Int) = -149 + (exf FloatKind.f32.format (rung FloatKind.f32.format x) : Int) - ((exf FloatKind.f32.format (rung FloatKind.f32.format x) + 925 : Nat) : Int) := by rw [f64_lp]; omega
  rw [← hp, hm, hpl] at h1
  rw [f32_lp] at h3
  have he : FloatKind.f32.encode (.number (sgn FloatKind.f32.format x) (sgf FloatKind.f64.format r) (FloatKind.f64.format.leastPlace + exf FloatKind.f64.format r)) = FloatKind.f32.format.word (sgn FloatKind.f32.format x) (rung FloatKind.f32.format x) := by
    show FloatKind.f32.format.nearest _ _ _ = _
    rw [← h1, h2, h3]
  unfold floatToFloatBits
  rw [if_neg (by decide), decode_word _ hr]
  simp only [he]
  rw [decode_word _ hx]
  rfl
theorem there_val (x d r : Nat) (hx : x < 4294967296) (hn : ¬ Nn .f32 x) (h1 : ConvRes .f32 .f64 x d) (h2 : ConvRes .f64 .f32 (outB .f64 d).toNat r) : outB .f32 r = (x : Int) := by
  unfold Nn at hn
  by_cases c : rung FloatKind.f32.format x < FloatKind.f32.format.infRung
  · obtain ⟨r1, hr1, hup, hm⟩ := up_fin x c
    rw [conv_fix h1 hup, outB_word (Nat.le_of_lt hr1), Int.toNat_natCast] at h2
    rw [conv_fix h2 (down_up x r1 c hr1 hm), outB_word (Nat.le_of_lt c)]
    have e : FloatKind.f32.format.word (sgn FloatKind.f32.format x) (rung FloatKind.f32.format x) = x := by
      unfold Format.word sgn rung
      rw [show FloatKind.f32.format.signWeight = 2147483648 by decide]
      have h3 : x / 2147483648 % 2 = 0 ∨ x / 2147483648 % 2 = 1 := by omega
      rcases h3 with h | h <;> rw [h]
      · rw [if_neg (by decide)]; omega
      · rw [if_pos (by decide)]; omega
    rw [e]
  · have hc : x = 2139095040 ∨ x = 4286578688 := by
      unfold rung at c hn
      rw [show FloatKind.f32.format.signWeight = 2147483648 by decide, f32_inf] at c hn
      omega
    rcases hc with rfl | rfl
    · rw [conv_fix (v := 9218868437227405312) h1 (by decide), show (outB .f64 9218868437227405312).toNat = 9218868437227405312 by decide] at h2
      rw [conv_fix (v := 2139095040) h2 (by decide)]; decide
    · rw [conv_fix (v := 18442240474082181120) h1 (by decide), show (outB .f64 18442240474082181120).toNat = 18442240474082181120 by decide] at h2
      rw [conv_fix (v := 4286578688) h2 (by decide)]; decide

set_option maxRecDepth 100000 in
set_option maxHeartbeats 1000000 in
theorem walk (a : Int) (w : World) (ha : (Lit.int .u64 a).wf = true) :
    Calls Try.prog 12 #[.int .u64 a] w fun r w' => r = .returned (.bool true) ∧ Below w.heap.size w w' := by
  simp [Lit.wf, IntKind.min, IntKind.max, IntKind.signed, IntKind.bits] at ha
  have ha0 : 0 ≤ a := ha.1
  have ha1 : a < 18446744073709551616 := by omega
  have hand : bits .and .u64 a 4294967295 = a % 4294967296 := and32 a ha0 ha1
  have hw0 : -2147483648 ≤ wrap32 a := by unfold wrap32; omega
  have hw1 : wrap32 a < 2147483648 := by unfold wrap32; omega
  have hw2 : wrap32 a % 4294967296 = a % 4294967296 := by unfold wrap32; omega
  have hm : a % 4294967296 % 4294967296 = a % 4294967296 := by omega
  have hT := Lib.hid (there_val (a % 4294967296).toNat)
  have hx : (((a % 4294967296).toNat : Nat) : Int) = a % 4294967296 := by omega
  have hx2 := Lib.hid (show (a % 4294967296).toNat < 4294967296 by omega)
  clear ha
  cases hnan : (FloatKind.f32.format.order (a % 4294967296).toNat (a % 4294967296).toNat != some .eq)
  · have hnn : ¬ Nn .f32 (a % 4294967296).toNat := by
      rw [← isNum_iff]; unfold isNum; simpa using hnan
    have HN := Lib.hid hnn
    clear hnn
    go_enter Try.func12, Try.ntmps12
    go_wp2_with fail
    refine (alive_calls _).mono ?_; rintro r w0 ⟨rfl, hb0⟩
    go_wp2_with fail
    refine (conv_bb a _).mono ?_; rintro r w1 ⟨d, hD, rfl, hb1⟩; have HD := Lib.hid hD; clear hD
    go_wp2_with fail
    refine (conv_b6 _ _).mono ?_; rintro r w2 ⟨d2, hD2, rfl, hb2⟩; have hv := hT.out _ _ hx2.out HN.out HD.out hD2; rw [hx] at hv; clear hD2 HD
    go_wp2_with fail
    refine (nan_32 _ _).mono ?_; rintro r w' ⟨rfl, rfl⟩
    go_wp2_with fail
    refine (conv_b7 a _).mono ?_; rintro r w3 ⟨rfl, hb3⟩
    go_wp2_with fail
    refine (conv_aa _ hw0 hw1 _).mono ?_; rintro r w4 ⟨rfl, hb4⟩
    go_wp2_with fail
    refine (conv_b8 a _).mono ?_; rintro r w5 ⟨rfl, hb5⟩
    go_wp2_with fail
    refine (conv_ab _ (by omega) (by omega) _).mono ?_; rintro r w6 ⟨rfl, hb6⟩
    go_wp2_with fail
    go_ret
    exact ⟨rfl, by
      have s0 := hb0.size
      have s1 := hb1.size
      have s2 := hb2.size
      have s3 := hb3.size
      have s4 := hb4.size
      have s5 := hb5.size
      exact (((((hb0.trans (hb1.mono (by omega))).trans (hb2.mono (by omega))).trans (hb3.mono (by omega))).trans (hb4.mono (by omega))).trans (hb5.mono (by omega))).trans (hb6.mono (by omega))⟩
  · go_enter Try.func12, Try.ntmps12
    go_wp2_with fail
    refine (alive_calls _).mono ?_; rintro r w0 ⟨rfl, hb0⟩
    go_wp2_with fail
    refine (conv_bb a _).mono ?_; rintro r w1 ⟨d, hD, rfl, hb1⟩; clear hD
    go_wp2_with fail
    refine (conv_b6 _ _).mono ?_; rintro r w2 ⟨d2, hD2, rfl, hb2⟩; clear hD2
    go_wp2_with fail
    refine (nan_32 _ _).mono ?_; rintro r w' ⟨rfl, rfl⟩
    go_wp2_with fail
    refine (conv_b7 a _).mono ?_; rintro r w3 ⟨rfl, hb3⟩
    go_wp2_with fail
    refine (conv_aa _ hw0 hw1 _).mono ?_; rintro r w4 ⟨rfl, hb4⟩
    go_wp2_with fail
    refine (conv_b8 a _).mono ?_; rintro r w5 ⟨rfl, hb5⟩
    go_wp2_with fail
    refine (conv_ab _ (by omega) (by omega) _).mono ?_; rintro r w6 ⟨rfl, hb6⟩
    go_wp2_with fail
    go_ret
    exact ⟨rfl, by
      have s0 := hb0.size
      have s1 := hb1.size
      have s2 := hb2.size
      have s3 := hb3.size
      have s4 := hb4.size
      have s5 := hb5.size
      exact (((((hb0.trans (hb1.mono (by omega))).trans (hb2.mono (by omega))).trans (hb3.mono (by omega))).trans (hb4.mono (by omega))).trans (hb5.mono (by omega))).trans (hb6.mono (by omega))⟩
end Go.Proofs.Ytapfapngcncaeaa.FnumThereWalk
