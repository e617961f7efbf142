/- Walks of the reference's least and Binary. (Printed by wip/bin3gen.py.) -/
import Derived.Test.YtapfapngcncaeaaBin2
import Derived.Test.YtapfapngcncaeaaQFx9
namespace Go.Proofs.Ytapfapngcncaeaa.QF
open Go.RowKit Go.Proofs.YtapfapngcncaeaaW.PrintWords Go.Proofs.YtapfapngcncaeaaW.PrintLast Go.Proofs.YtapfapngcncaeaaW.PrintMore Go.Proofs.Ytapfapngcncaeaa.Ie Go.Proofs.Ytapfapngcncaeaa.Rf Go.Proofs.Ytapfapngcncaeaa.Fl
set_option linter.unusedVariables false

def leastV (e l m : Bool) (x y : Int) : Int := if e then (if m then bits .and .u64 x y else bits .or .u64 x y) else if l != m then x else y

set_option maxRecDepth 100000 in
set_option maxHeartbeats 2000000 in
theorem least_calls (p q x y kx ky : Int) (e l m : Bool) (hx : ratchetref04_Format_key.f p q x = some kx) (hy : ratchetref04_Format_key.f p q y = some ky) (he : (kx == ky) = e) (hl : decide (kx < ky) = l) (w : World) :
    Calls Try.prog 75 #[.agg #[.int .i64 p, .int .i64 q], .int .u64 x, .int .u64 y, .bool m] w fun r w' => r = .returned (.int .u64 (leastV e l m x y)) ∧ Below w.heap.size w w' := by
  have HX := Lib.hid hx
  have HY := Lib.hid hy
  clear hx hy
  cases e <;> cases l <;> cases m
  all_goals
   go_enter Try.func75, Try.ntmps75
   go_wp2
   go_region_held3 (fun w' => w'.cell? ⟨w.heap.size, 0, none⟩ = some (.int .i64 p) ∧ w'.cell? ⟨w.heap.size, 1, none⟩ = some (.int .i64 q) ∧ w.heap.size < w'.heap.size ∧ Below w.heap.size w w') (first | (exact keep4 ‹_› hb) | (exact keepD ⟨k0, k1, kl, kb⟩) | (refine ⟨?_, ?_, ?_, below_box_drew _ _⟩ <;> go_keep)) (first | (go_at_call_of 69 x; refine (ratchetref04_Format_key.calls _ _ _ _ _ HX.out).mono ?_; rintro e w1 ⟨rfl, hb⟩) | (go_at_call_of 69 y; refine (ratchetref04_Format_key.calls _ _ _ _ _ HY.out).mono ?_; rintro e w1 ⟨rfl, hb⟩))
   rename_i wS hS
   obtain ⟨k0, k1, kl, kb⟩ := hS
   go_wp2
   go_ret
   exact ⟨rfl, kb⟩

set_option maxRecDepth 100000 in
set_option maxHeartbeats 2000000 in
theorem bin_sign (p q a b x y s g : Int) (ha : ratchetref04_Format_cut.f p q a = some x) (hb' : ratchetref04_Format_cut.f p q b = some y) (hs : ratchetref04_Format_size.f p q x = some s) (hg : ratchetref04_Format_sign.f p q = some g) (w : World) :
    Calls Try.prog 53 #[.agg #[.int .i64 p, .int .i64 q], .int .i64 6, .int .u64 a, .int .u64 b] w fun r w' => r = .returned (.int .u64 (IntKind.u64.wrap (s + bits .and .u64 y g))) ∧ Below w.heap.size w w' := by
  have HA := Lib.hid ha
  have HB := Lib.hid hb'
  have HS := Lib.hid hs
  have HG := Lib.hid hg
  clear ha hb' hs hg
  go_enter Try.func53, Try.ntmps53
  go_wp2
  go_region_held3 (fun w' => w'.cell? ⟨w.heap.size, 0, none⟩ = some (.int .i64 p) ∧ w'.cell? ⟨w.heap.size, 1, none⟩ = some (.int .i64 q) ∧ w.heap.size < w'.heap.size ∧ Below w.heap.size w w') (first | (exact keep4 ‹_› hb) | (exact keepD ⟨k0, k1, kl, kb⟩) | (refine ⟨?_, ?_, ?_, below_box_drew _ _⟩ <;> go_keep)) (first | (go_at_call_of 40 a; refine (ratchetref04_Format_cut.calls _ _ _ _ _ HA.out).mono ?_; rintro e w1 ⟨rfl, hb⟩) | (go_at_call_of 40 b; refine (ratchetref04_Format_cut.calls _ _ _ _ _ HB.out).mono ?_; rintro e w1 ⟨rfl, hb⟩))
  rename_i wS hS
  obtain ⟨k0, k1, kl, kb⟩ := hS
  go_wp2
  go_region_held3 (fun w' => w'.cell? ⟨w.heap.size, 0, none⟩ = some (.int .i64 p) ∧ w'.cell? ⟨w.heap.size, 1, none⟩ = some (.int .i64 q) ∧ w.heap.size < w'.heap.size ∧ Below w.heap.size w w') (first | (exact keep4 ‹_› hb) | (exact keepD ⟨k0, k1, kl, kb⟩) | (refine ⟨?_, ?_, ?_, below_box_drew _ _⟩ <;> go_keep)) (first | (go_at_call 42; refine (ratchetref04_Format_size.calls _ _ _ _ _ HS.out).mono ?_; rintro e w1 ⟨rfl, hb⟩) | (go_at_call 68; refine (ratchetref04_Format_sign.calls _ _ _ _ HG.out).mono ?_; rintro e w1 ⟨rfl, hb⟩))
  rename_i wS hS
  obtain ⟨k0, k1, kl, kb⟩ := hS
  go_wp2
  go_ret
  exact ⟨rfl, kb⟩

set_option maxRecDepth 100000 in
set_option maxHeartbeats 2000000 in
theorem bin_nan (op p q a b x y n : Int) (n1 n2 : Bool) (ho : (op == 6) = false) (ha : ratchetref04_Format_cut.f p q a = some x) (hb' : ratchetref04_Format_cut.f p q b = some y) (h1 : ratchetref04_Format_isNan.f p q x = some n1) (h2 : ratchetref04_Format_isNan.f p q y = some n2) (hn : ratchetref04_Format_nan.f p q = some n) (hor : (n1 || n2) = true) (w : World) :
    Calls Try.prog 53 #[.agg #[.int .i64 p, .int .i64 q], .int .i64 op, .int .u64 a, .int .u64 b] w fun r w' => r = .returned (.int .u64 (n)) ∧ Below w.heap.size w w' := by
  have HA := Lib.hid ha
  have HB := Lib.hid hb'
  have H1 := Lib.hid h1
  have H2 := Lib.hid h2
  have HN := Lib.hid hn
  clear ha hb' h1 h2 hn
  cases n1 <;> cases n2 <;> first | (exfalso; revert hor; decide) | skip
  all_goals
   clear hor
   go_enter Try.func53, Try.ntmps53
   go_wp2
   go_region_held3 (fun w' => w'.cell? ⟨w.heap.size, 0, none⟩ = some (.int .i64 p) ∧ w'.cell? ⟨w.heap.size, 1, none⟩ = some (.int .i64 q) ∧ w.heap.size < w'.heap.size ∧ Below w.heap.size w w') (first | (exact keep4 ‹_› hb) | (exact keepD ⟨k0, k1, kl, kb⟩) | (refine ⟨?_, ?_, ?_, below_box_drew _ _⟩ <;> go_keep)) (first | (go_at_call_of 40 a; refine (ratchetref04_Format_cut.calls _ _ _ _ _ HA.out).mono ?_; rintro e w1 ⟨rfl, hb⟩) | (go_at_call_of 40 b; refine (ratchetref04_Format_cut.calls _ _ _ _ _ HB.out).mono ?_; rintro e w1 ⟨rfl, hb⟩))
   rename_i wS hS
   obtain ⟨k0, k1, kl, kb⟩ := hS
   go_wp2_with (first | (go_at_call_of 41 x; refine (ratchetref04_Format_isNan.calls _ _ _ _ _ H1.out).mono ?_; rintro e w1 ⟨rfl, hb⟩; have hS := keep4 ⟨k0, k1, kl, kb⟩ hb; clear k0 k1 kl kb hb; obtain ⟨k0, k1, kl, kb⟩ := hS) | (go_at_call_of 41 y; refine (ratchetref04_Format_isNan.calls _ _ _ _ _ H2.out).mono ?_; rintro e w1 ⟨rfl, hb⟩; have hS := keep4 ⟨k0, k1, kl, kb⟩ hb; clear k0 k1 kl kb hb; obtain ⟨k0, k1, kl, kb⟩ := hS) | (go_at_call 43; refine (ratchetref04_Format_nan.calls _ _ _ _ HN.out).mono ?_; rintro e w1 ⟨rfl, hb⟩; have hS := keep4 ⟨k0, k1, kl, kb⟩ hb; clear k0 k1 kl kb hb; obtain ⟨k0, k1, kl, kb⟩ := hS))
   go_ret
   exact ⟨rfl, kb⟩

set_option maxRecDepth 100000 in
set_option maxHeartbeats 2000000 in
theorem bin_0 (p q a b x y v : Int) (ha : ratchetref04_Format_cut.f p q a = some x) (hb' : ratchetref04_Format_cut.f p q b = some y) (h1 : ratchetref04_Format_isNan.f p q x = some false) (h2 : ratchetref04_Format_isNan.f p q y = some false)
    (hc : ∀ w : World, Calls Try.prog 72 #[.agg #[.int .i64 p, .int .i64 q], .int .u64 x, .int .u64 y] w fun r w' => r = .returned (.int .u64 v) ∧ Below w.heap.size w w') (w : World) :
    Calls Try.prog 53 #[.agg #[.int .i64 p, .int .i64 q], .int .i64 0, .int .u64 a, .int .u64 b] w fun r w' => r = .returned (.int .u64 (v)) ∧ Below w.heap.size w w' := by
  have HA := Lib.hid ha
  have HB := Lib.hid hb'
  have H1 := Lib.hid h1
  have H2 := Lib.hid h2
  have HC := Lib.hid hc
  clear ha hb' h1 h2 hc
  go_enter Try.func53, Try.ntmps53
  go_wp2
  go_region_held3 (fun w' => w'.cell? ⟨w.heap.size, 0, none⟩ = some (.int .i64 p) ∧ w'.cell? ⟨w.heap.size, 1, none⟩ = some (.int .i64 q) ∧ w.heap.size < w'.heap.size ∧ Below w.heap.size w w') (first | (exact keep4 ‹_› hb) | (exact keepD ⟨k0, k1, kl, kb⟩) | (refine ⟨?_, ?_, ?_, below_box_drew _ _⟩ <;> go_keep)) (first | (go_at_call_of 40 a; refine (ratchetref04_Format_cut.calls _ _ _ _ _ HA.out).mono ?_; rintro e w1 ⟨rfl, hb⟩) | (go_at_call_of 40 b; refine (ratchetref04_Format_cut.calls _ _ _ _ _ HB.out).mono ?_; rintro e w1 ⟨rfl, hb⟩))
  rename_i wS hS
  obtain ⟨k0, k1, kl, kb⟩ := hS
  go_wp2_with (first | (go_at_call_of 41 x; refine (ratchetref04_Format_isNan.calls _ _ _ _ _ H1.out).mono ?_; rintro e w1 ⟨rfl, hb⟩; have hS := keep4 ⟨k0, k1, kl, kb⟩ hb; clear k0 k1 kl kb hb; obtain ⟨k0, k1, kl, kb⟩ := hS) | (go_at_call_of 41 y; refine (ratchetref04_Format_isNan.calls _ _ _ _ _ H2.out).mono ?_; rintro e w1 ⟨rfl, hb⟩; have hS := keep4 ⟨k0, k1, kl, kb⟩ hb; clear k0 k1 kl kb hb; obtain ⟨k0, k1, kl, kb⟩ := hS) | (go_at_call 72; refine (HC.out _).mono ?_; rintro e w1 ⟨rfl, hb⟩; have hS := keep4 ⟨k0, k1, kl, kb⟩ hb; clear k0 k1 kl kb hb; obtain ⟨k0, k1, kl, kb⟩ := hS))
  go_ret
  exact ⟨rfl, kb⟩

set_option maxRecDepth 100000 in
set_option maxHeartbeats 2000000 in
theorem bin_1 (p q a b x y g v : Int) (ha : ratchetref04_Format_cut.f p q a = some x) (hb' : ratchetref04_Format_cut.f p q b = some y) (h1 : ratchetref04_Format_isNan.f p q x = some false) (h2 : ratchetref04_Format_isNan.f p q y = some false) (hg : ratchetref04_Format_sign.f p q = some g)
    (hc : ∀ w : World, Calls Try.prog 72 #[.agg #[.int .i64 p, .int .i64 q], .int .u64 x, .int .u64 (bits .xor .u64 y g)] w fun r w' => r = .returned (.int .u64 v) ∧ Below w.heap.size w w') (w : World) :
    Calls Try.prog 53 #[.agg #[.int .i64 p, .int .i64 q], .int .i64 1, .int .u64 a, .int .u64 b] w fun r w' => r = .returned (.int .u64 (v)) ∧ Below w.heap.size w w' := by
  have HA := Lib.hid ha
  have HB := Lib.hid hb'
  have H1 := Lib.hid h1
  have H2 := Lib.hid h2
  have HC := Lib.hid hc
  have HG := Lib.hid hg
  clear ha hb' h1 h2 hc hg
  go_enter Try.func53, Try.ntmps53
  go_wp2
  go_region_held3 (fun w' => w'.cell? ⟨w.heap.size, 0, none⟩ = some (.int .i64 p) ∧ w'.cell? ⟨w.heap.size, 1, none⟩ = some (.int .i64 q) ∧ w.heap.size < w'.heap.size ∧ Below w.heap.size w w') (first | (exact keep4 ‹_› hb) | (exact keepD ⟨k0, k1, kl, kb⟩) | (refine ⟨?_, ?_, ?_, below_box_drew _ _⟩ <;> go_keep)) (first | (go_at_call_of 40 a; refine (ratchetref04_Format_cut.calls _ _ _ _ _ HA.out).mono ?_; rintro e w1 ⟨rfl, hb⟩) | (go_at_call_of 40 b; refine (ratchetref04_Format_cut.calls _ _ _ _ _ HB.out).mono ?_; rintro e w1 ⟨rfl, hb⟩))
  rename_i wS hS
  obtain ⟨k0, k1, kl, kb⟩ := hS
  go_wp2_with (first | (go_at_call_of 41 x; refine (ratchetref04_Format_isNan.calls _ _ _ _ _ H1.out).mono ?_; rintro e w1 ⟨rfl, hb⟩; have hS := keep4 ⟨k0, k1, kl, kb⟩ hb; clear k0 k1 kl kb hb; obtain ⟨k0, k1, kl, kb⟩ := hS) | (go_at_call_of 41 y; refine (ratchetref04_Format_isNan.calls _ _ _ _ _ H2.out).mono ?_; rintro e w1 ⟨rfl, hb⟩; have hS := keep4 ⟨k0, k1, kl, kb⟩ hb; clear k0 k1 kl kb hb; obtain ⟨k0, k1, kl, kb⟩ := hS))
  go_region_held3 (fun w' => w'.cell? ⟨w.heap.size, 0, none⟩ = some (.int .i64 p) ∧ w'.cell? ⟨w.heap.size, 1, none⟩ = some (.int .i64 q) ∧ w.heap.size < w'.heap.size ∧ Below w.heap.size w w') (first | (exact keep4 ‹_› hb) | (exact keepD ⟨k0, k1, kl, kb⟩) | (refine ⟨?_, ?_, ?_, below_box_drew _ _⟩ <;> go_keep)) (first | (go_at_call 68; refine (ratchetref04_Format_sign.calls _ _ _ _ HG.out).mono ?_; rintro e w1 ⟨rfl, hb⟩) | (go_at_call 72; refine (HC.out _).mono ?_; rintro e w1 ⟨rfl, hb⟩))
  rename_i wS hS
  obtain ⟨k0, k1, kl, kb⟩ := hS
  go_wp2
  go_ret
  exact ⟨rfl, kb⟩

set_option maxRecDepth 100000 in
set_option maxHeartbeats 2000000 in
theorem bin_2 (p q a b x y v : Int) (ha : ratchetref04_Format_cut.f p q a = some x) (hb' : ratchetref04_Format_cut.f p q b = some y) (h1 : ratchetref04_Format_isNan.f p q x = some false) (h2 : ratchetref04_Format_isNan.f p q y = some false)
    (hc : ∀ w : World, Calls Try.prog 73 #[.agg #[.int .i64 p, .int .i64 q], .int .u64 x, .int .u64 y] w fun r w' => r = .returned (.int .u64 v) ∧ Below w.heap.size w w') (w : World) :
    Calls Try.prog 53 #[.agg #[.int .i64 p, .int .i64 q], .int .i64 2, .int .u64 a, .int .u64 b] w fun r w' => r = .returned (.int .u64 (v)) ∧ Below w.heap.size w w' := by
  have HA := Lib.hid ha
  have HB := Lib.hid hb'
  have H1 := Lib.hid h1
  have H2 := Lib.hid h2
  have HC := Lib.hid hc
  clear ha hb' h1 h2 hc
  go_enter Try.func53, Try.ntmps53
  go_wp2
  go_region_held3 (fun w' => w'.cell? ⟨w.heap.size, 0, none⟩ = some (.int .i64 p) ∧ w'.cell? ⟨w.heap.size, 1, none⟩ = some (.int .i64 q) ∧ w.heap.size < w'.heap.size ∧ Below w.heap.size w w') (first | (exact keep4 ‹_› hb) | (exact keepD ⟨k0, k1, kl, kb⟩) | (refine ⟨?_, ?_, ?_, below_box_drew _ _⟩ <;> go_keep)) (first | (go_at_call_of 40 a; refine (ratchetref04_Format_cut.calls _ _ _ _ _ HA.out).mono ?_; rintro e w1 ⟨rfl, hb⟩) | (go_at_call_of 40 b; refine (ratchetref04_Format_cut.calls _ _ _ _ _ HB.out).mono ?_; rintro e w1 ⟨rfl, hb⟩))
  rename_i wS hS
  obtain ⟨k0, k1, kl, kb⟩ := hS
  go_wp2_with (first | (go_at_call_of 41 x; refine (ratchetref04_Format_isNan.calls _ _ _ _ _ H1.out).mono ?_; rintro e w1 ⟨rfl, hb⟩; have hS := keep4 ⟨k0, k1, kl, kb⟩ hb; clear k0 k1 kl kb hb; obtain ⟨k0, k1, kl, kb⟩ := hS) | (go_at_call_of 41 y; refine (ratchetref04_Format_isNan.calls _ _ _ _ _ H2.out).mono ?_; rintro e w1 ⟨rfl, hb⟩; have hS := keep4 ⟨k0, k1, kl, kb⟩ hb; clear k0 k1 kl kb hb; obtain ⟨k0, k1, kl, kb⟩ := hS) | (go_at_call 73; refine (HC.out _).mono ?_; rintro e w1 ⟨rfl, hb⟩; have hS := keep4 ⟨k0, k1, kl, kb⟩ hb; clear k0 k1 kl kb hb; obtain ⟨k0, k1, kl, kb⟩ := hS))
  go_ret
  exact ⟨rfl, kb⟩

set_option maxRecDepth 100000 in
set_option maxHeartbeats 2000000 in
theorem bin_3 (p q a b x y v : Int) (ha : ratchetref04_Format_cut.f p q a = some x) (hb' : ratchetref04_Format_cut.f p q b = some y) (h1 : ratchetref04_Format_isNan.f p q x = some false) (h2 : ratchetref04_Format_isNan.f p q y = some false)
    (hc : ∀ w : World, Calls Try.prog 74 #[.agg #[.int .i64 p, .int .i64 q], .int .u64 x, .int .u64 y] w fun r w' => r = .returned (.int .u64 v) ∧ Below w.heap.size w w') (w : World) :
    Calls Try.prog 53 #[.agg #[.int .i64 p, .int .i64 q], .int .i64 3, .int .u64 a, .int .u64 b] w fun r w' => r = .returned (.int .u64 (v)) ∧ Below w.heap.size w w' := by
  have HA := Lib.hid ha
  have HB := Lib.hid hb'
  have H1 := Lib.hid h1
  have H2 := Lib.hid h2
  have HC := Lib.hid hc
  clear ha hb' h1 h2 hc
  go_enter Try.func53, Try.ntmps53
  go_wp2
  go_region_held3 (fun w' => w'.cell? ⟨w.heap.size, 0, none⟩ = some (.int .i64 p) ∧ w'.cell? ⟨w.heap.size, 1, none⟩ = some (.int .i64 q) ∧ w.heap.size < w'.heap.size ∧ Below w.heap.size w w') (first | (exact keep4 ‹_› hb) | (exact keepD ⟨k0, k1, kl, kb⟩) | (refine ⟨?_, ?_, ?_, below_box_drew _ _⟩ <;> go_keep)) (first | (go_at_call_of 40 a; refine (ratchetref04_Format_cut.calls _ _ _ _ _ HA.out).mono ?_; rintro e w1 ⟨rfl, hb⟩) | (go_at_call_of 40 b; refine (ratchetref04_Format_cut.calls _ _ _ _ _ HB.out).mono ?_; rintro e w1 ⟨rfl, hb⟩))
  rename_i wS hS
  obtain ⟨k0, k1, kl, kb⟩ := hS
  go_wp2_with (first | (go_at_call_of 41 x; refine (ratchetref04_Format_isNan.calls _ _ _ _ _ H1.out).mono ?_; rintro e w1 ⟨rfl, hb⟩; have hS := keep4 ⟨k0, k1, kl, kb⟩ hb; clear k0 k1 kl kb hb; obtain ⟨k0, k1, kl, kb⟩ := hS) | (go_at_call_of 41 y; refine (ratchetref04_Format_isNan.calls _ _ _ _ _ H2.out).mono ?_; rintro e w1 ⟨rfl, hb⟩; have hS := keep4 ⟨k0, k1, kl, kb⟩ hb; clear k0 k1 kl kb hb; obtain ⟨k0, k1, kl, kb⟩ := hS) | (go_at_call 74; refine (HC.out _).mono ?_; rintro e w1 ⟨rfl, hb⟩; have hS := keep4 ⟨k0, k1, kl, kb⟩ hb; clear k0 k1 kl kb hb; obtain ⟨k0, k1, kl, kb⟩ := hS))
  go_ret
  exact ⟨rfl, kb⟩

set_option maxRecDepth 100000 in
set_option maxHeartbeats 2000000 in
theorem bin_4 (p q a b x y v : Int) (ha : ratchetref04_Format_cut.f p q a = some x) (hb' : ratchetref04_Format_cut.f p q b = some y) (h1 : ratchetref04_Format_isNan.f p q x = some false) (h2 : ratchetref04_Format_isNan.f p q y = some false)
    (hc : ∀ w : World, Calls Try.prog 75 #[.agg #[.int .i64 p, .int .i64 q], .int .u64 x, .int .u64 y, .bool false] w fun r w' => r = .returned (.int .u64 v) ∧ Below w.heap.size w w') (w : World) :
    Calls Try.prog 53 #[.agg #[.int .i64 p, .int .i64 q], .int .i64 4, .int .u64 a, .int .u64 b] w fun r w' => r = .returned (.int .u64 (v)) ∧ Below w.heap.size w w' := by
  have HA := Lib.hid ha
  have HB := Lib.hid hb'
  have H1 := Lib.hid h1
  have H2 := Lib.hid h2
  have HC := Lib.hid hc
  clear ha hb' h1 h2 hc
  go_enter Try.func53, Try.ntmps53
  go_wp2
  go_region_held3 (fun w' => w'.cell? ⟨w.heap.size, 0, none⟩ = some (.int .i64 p) ∧ w'.cell? ⟨w.heap.size, 1, none⟩ = some (.int .i64 q) ∧ w.heap.size < w'.heap.size ∧ Below w.heap.size w w') (first | (exact keep4 ‹_› hb) | (exact keepD ⟨k0, k1, kl, kb⟩) | (refine ⟨?_, ?_, ?_, below_box_drew _ _⟩ <;> go_keep)) (first | (go_at_call_of 40 a; refine (ratchetref04_Format_cut.calls _ _ _ _ _ HA.out).mono ?_; rintro e w1 ⟨rfl, hb⟩) | (go_at_call_of 40 b; refine (ratchetref04_Format_cut.calls _ _ _ _ _ HB.out).mono ?_; rintro e w1 ⟨rfl, hb⟩))
  rename_i wS hS
  obtain ⟨k0, k1, kl, kb⟩ := hS
  go_wp2_with (first | (go_at_call_of 41 x; refine (ratchetref04_Format_isNan.calls _ _ _ _ _ H1.out).mono ?_; rintro e w1 ⟨rfl, hb⟩; have hS := keep4 ⟨k0, k1, kl, kb⟩ hb; clear k0 k1 kl kb hb; obtain ⟨k0, k1, kl, kb⟩ := hS) | (go_at_call_of 41 y; refine (ratchetref04_Format_isNan.calls _ _ _ _ _ H2.out).mono ?_; rintro e w1 ⟨rfl, hb⟩; have hS := keep4 ⟨k0, k1, kl, kb⟩ hb; clear k0 k1 kl kb hb; obtain ⟨k0, k1, kl, kb⟩ := hS) | (go_at_call 75; refine (HC.out _).mono ?_; rintro e w1 ⟨rfl, hb⟩; have hS := keep4 ⟨k0, k1, kl, kb⟩ hb; clear k0 k1 kl kb hb; obtain ⟨k0, k1, kl, kb⟩ := hS))
  go_ret
  exact ⟨rfl, kb⟩

set_option maxRecDepth 100000 in
set_option maxHeartbeats 2000000 in
theorem bin_5 (p q a b x y v : Int) (ha : ratchetref04_Format_cut.f p q a = some x) (hb' : ratchetref04_Format_cut.f p q b = some y) (h1 : ratchetref04_Format_isNan.f p q x = some false) (h2 : ratchetref04_Format_isNan.f p q y = some false)
    (hc : ∀ w : World, Calls Try.prog 75 #[.agg #[.int .i64 p, .int .i64 q], .int .u64 x, .int .u64 y, .bool true] w fun r w' => r = .returned (.int .u64 v) ∧ Below w.heap.size w w') (w : World) :
    Calls Try.prog 53 #[.agg #[.int .i64 p, .int .i64 q], .int .i64 5, .int .u64 a, .int .u64 b] w fun r w' => r = .returned (.int .u64 (v)) ∧ Below w.heap.size w w' := by
  have HA := Lib.hid ha
  have HB := Lib.hid hb'
  have H1 := Lib.hid h1
  have H2 := Lib.hid h2
  have HC := Lib.hid hc
  clear ha hb' h1 h2 hc
  go_enter Try.func53, Try.ntmps53
  go_wp2
  go_region_held3 (fun w' => w'.cell? ⟨w.heap.size, 0, none⟩ = some (.int .i64 p) ∧ w'.cell? ⟨w.heap.size, 1, none⟩ = some (.int .i64 q) ∧ w.heap.size < w'.heap.size ∧ Below w.heap.size w w') (first | (exact keep4 ‹_› hb) | (exact keepD ⟨k0, k1, kl, kb⟩) | (refine ⟨?_, ?_, ?_, below_box_drew _ _⟩ <;> go_keep)) (first | (go_at_call_of 40 a; refine (ratchetref04_Format_cut.calls _ _ _ _ _ HA.out).mono ?_; rintro e w1 ⟨rfl, hb⟩) | (go_at_call_of 40 b; refine (ratchetref04_Format_cut.calls _ _ _ _ _ HB.out).mono ?_; rintro e w1 ⟨rfl, hb⟩))
  rename_i wS hS
  obtain ⟨k0, k1, kl, kb⟩ := hS
  go_wp2_with (first | (go_at_call_of 41 x; refine (ratchetref04_Format_isNan.calls _ _ _ _ _ H1.out).mono ?_; rintro e w1 ⟨rfl, hb⟩; have hS := keep4 ⟨k0, k1, kl, kb⟩ hb; clear k0 k1 kl kb hb; obtain ⟨k0, k1, kl, kb⟩ := hS) | (go_at_call_of 41 y; refine (ratchetref04_Format_isNan.calls _ _ _ _ _ H2.out).mono ?_; rintro e w1 ⟨rfl, hb⟩; have hS := keep4 ⟨k0, k1, kl, kb⟩ hb; clear k0 k1 kl kb hb; obtain ⟨k0, k1, kl, kb⟩ := hS) | (go_at_call 75; refine (HC.out _).mono ?_; rintro e w1 ⟨rfl, hb⟩; have hS := keep4 ⟨k0, k1, kl, kb⟩ hb; clear k0 k1 kl kb hb; obtain ⟨k0, k1, kl, kb⟩ := hS))
  go_ret
  exact ⟨rfl, kb⟩

end Go.Proofs.Ytapfapngcncaeaa.QF
