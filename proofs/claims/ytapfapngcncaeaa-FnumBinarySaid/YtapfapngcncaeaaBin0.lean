/- Walks of the reference's Add, Mul, Div, least, Binary. -/
import Derived.Test.YtapfapngcncaeaaQuo1
import Derived.Test.YtapfapngcncaeaaFl4
import Derived.Deep.RegionHeld3
namespace Go.Proofs.Ytapfapngcncaeaa.QF
open Go.RowKit Go.Proofs.YtapfapngcncaeaaW.PrintWords Go.Proofs.YtapfapngcncaeaaW.PrintLast Go.Proofs.YtapfapngcncaeaaW.PrintMore Go.Proofs.Ytapfapngcncaeaa.Ie Go.Proofs.Ytapfapngcncaeaa.Rf Go.Proofs.Ytapfapngcncaeaa.Fl

theorem keep4 {w0 w w1 : World} {B : Nat} {p q : Int} (h : w.cell? ⟨B, 0, none⟩ = some (.int .i64 p) ∧ w.cell? ⟨B, 1, none⟩ = some (.int .i64 q) ∧ B < w.heap.size ∧ Below w0.heap.size w0 w) (hb : Below w.heap.size w w1) :
    w1.cell? ⟨B, 0, none⟩ = some (.int .i64 p) ∧ w1.cell? ⟨B, 1, none⟩ = some (.int .i64 q) ∧ B < w1.heap.size ∧ Below w0.heap.size w0 w1 :=
  ⟨(hb.cell (p := ⟨B, 0, none⟩) h.2.2.1).trans h.1, (hb.cell (p := ⟨B, 1, none⟩) h.2.2.1).trans h.2.1, Nat.lt_of_lt_of_le h.2.2.1 hb.size, h.2.2.2.trans (hb.mono h.2.2.2.size)⟩
theorem below_box (w : World) (o : Obj) : Below w.heap.size w (w.alloc o) := (Below.refl _ _).alloc (Nat.le_refl _) o
theorem below_box_drew (w : World) (o : Obj) : Below w.heap.size w (w.alloc o).drew := by
  have h := below_box w o
  exact ⟨h.os, h.tape, h.output, h.size, h.block⟩

theorem keep0 (w : World) (p q : Int) (t : TypeId) : (w.alloc (.cells #[.int .i64 p, .int .i64 q] t)).cell? ⟨w.heap.size, 0, none⟩ = some (.int .i64 p) ∧ (w.alloc (.cells #[.int .i64 p, .int .i64 q] t)).cell? ⟨w.heap.size, 1, none⟩ = some (.int .i64 q) ∧
    w.heap.size < (w.alloc (.cells #[.int .i64 p, .int .i64 q] t)).heap.size ∧ Below w.heap.size w (w.alloc (.cells #[.int .i64 p, .int .i64 q] t)) :=
  ⟨by simp, by simp, by simp, below_box w _⟩

def addV (b1 b2 b3 b4 d : Bool) (nan x y sm : Int) : Int :=
  if b1 && b2 && d then nan else if b1 then x else if b2 then y else if b3 && b4 then bits .and .u64 x y else sm

set_option maxRecDepth 100000 in
set_option maxHeartbeats 1000000 in
theorem add_calls (k : Nat) (p q x y rx ry inf nan sm : Int) (b1 b2 b3 b4 d : Bool) (hsx : ratchetref04_Format_size.f p q x = some rx) (hsy : ratchetref04_Format_size.f p q y = some ry)
    (hi : ratchetref04_Format_inf.f p q = some inf) (hn : ratchetref04_Format_nan.f p q = some nan)
    (h1 : (rx == inf) = b1) (h2 : (ry == inf) = b2) (h3 : (rx == 0) = b3) (h4 : (ry == 0) = b4) (hd : (x != y) = d) (hinf : inf ≠ 0)
    (hs : (b1 || b2 || (b3 && b4)) = false → ratchetref04_Format_sum.f k p q x y = some sm) (w : World) :
    Calls Try.prog 72 #[.agg #[.int .i64 p, .int .i64 q], .int .u64 x, .int .u64 y] w fun e w' => e = .returned (.int .u64 (addV b1 b2 b3 b4 d nan x y sm)) ∧ Below w.heap.size w w' := by
  have HX := Lib.hid hsx
  have HY := Lib.hid hsy
  have HI := Lib.hid hi
  have HN := Lib.hid hn
  have HS := Lib.hid hs
  clear hsx hsy hi hn hs
  cases b1 <;> cases b2 <;> cases b3 <;> cases b4 <;> cases d
  all_goals
    first
    | (exfalso; simp only [beq_iff_eq, beq_eq_false_iff_ne, bne_iff_ne, bne_eq_false_iff_eq] at h1 h2 h3 h4 hd; omega)
    | (clear hinf
       go_enter Try.func72, Try.ntmps72
       go_wp2
       go_region_held3 (fun w' => w'.cell? ⟨w.heap.size, 0, none⟩ = some (.int .i64 p) ∧ w'.cell? ⟨w.heap.size, 1, none⟩ = some (.int .i64 q) ∧ w.heap.size < w'.heap.size ∧ Below w.heap.size w w') (first | (exact keep4 ‹_› hb) | (refine ⟨?_, ?_, ?_, below_box_drew _ _⟩ <;> go_keep)) (first | (go_at_call_of 42 x; refine (ratchetref04_Format_size.calls _ _ _ _ _ HX.out).mono ?_; rintro e w1 ⟨rfl, hb⟩) | (go_at_call_of 42 y; refine (ratchetref04_Format_size.calls _ _ _ _ _ HY.out).mono ?_; rintro e w1 ⟨rfl, hb⟩) | (go_at_call 67; refine (ratchetref04_Format_inf.calls _ _ _ _ HI.out).mono ?_; rintro e w1 ⟨rfl, hb⟩))
       rename_i wS hS
       obtain ⟨k0, k1, kl, kb⟩ := hS
       go_wp2_with (first | (go_at_call_of 42 x; refine (ratchetref04_Format_size.calls _ _ _ _ _ HX.out).mono ?_; rintro e w1 ⟨rfl, hb⟩; have hS := keep4 ⟨k0, k1, kl, kb⟩ hb; clear k0 k1 kl kb hb; obtain ⟨k0, k1, kl, kb⟩ := hS) | (go_at_call_of 42 y; refine (ratchetref04_Format_size.calls _ _ _ _ _ HY.out).mono ?_; rintro e w1 ⟨rfl, hb⟩; have hS := keep4 ⟨k0, k1, kl, kb⟩ hb; clear k0 k1 kl kb hb; obtain ⟨k0, k1, kl, kb⟩ := hS) | (go_at_call 43; refine (ratchetref04_Format_nan.calls _ _ _ _ HN.out).mono ?_; rintro e w1 ⟨rfl, hb⟩; have hS := keep4 ⟨k0, k1, kl, kb⟩ hb; clear k0 k1 kl kb hb; obtain ⟨k0, k1, kl, kb⟩ := hS) | (go_at_call 91; refine (ratchetref04_Format_sum.calls k _ _ _ _ _ _ (HS.out rfl)).mono ?_; rintro e w1 ⟨rfl, hb⟩; have hS := keep4 ⟨k0, k1, kl, kb⟩ hb; clear k0 k1 kl kb hb; obtain ⟨k0, k1, kl, kb⟩ := hS))
       go_ret
       exact ⟨rfl, kb⟩)
end Go.Proofs.Ytapfapngcncaeaa.QF
