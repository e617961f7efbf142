-- Walks laid out by program for this claim.
import Derived.Test.YtapfapngcncaeaaQFx0
import Derived.Test.YtapfapngcncaeaaQFx2
import Derived.Test.YtapfapngcncaeaaQFx3
namespace Go.Proofs.Ytapfapngcncaeaa.QF
open Go.RowKit Go.Proofs.YtapfapngcncaeaaW.PrintWords Go.Proofs.YtapfapngcncaeaaW.PrintLast Go.Proofs.YtapfapngcncaeaaW.PrintMore
attribute [local go_sem] max2_int min2_int max_two min_two max_three min_three max_four min_four   -- for this text's walks alone
set_option linter.unusedVariables false
set_option linter.unusedSimpArgs false

/-! ### ratchetref04_Format_Round: function 82 -/
mutual
def ratchetref04_Format_Round.j0 : Nat → Int → Int → Int → Int → Int → Int → Bool → Option (Int)
  | 0, _, _, _, _, _, _, _ => none
  | k + 1, x3, x9, x129000, x129001, x130000, x130001, x130002 => (ratchetref04_wide_long.f k x130000 x130001 x130002).bind fun t131 => ((ratchetref04_Format_bias.f x129000 x129001).bind fun t132 => ((ratchetref04_wide_right.f k x130000 x130001 x130002 (mx (wrap64 ((wrap64 (t131 - x129000)) - 1)) (wrap64 ((wrap64 (1 - t132)) - x3)))).bind fun bt133 => (if (mx (wrap64 ((wrap64 (t131 - x129000)) - 1)) (wrap64 ((wrap64 (1 - t132)) - x3))) ≤ 0 then ((ratchetref04_wide_left.f k x130000 x130001 x130002 (wrap64 (-(mx (wrap64 ((wrap64 (t131 - x129000)) - 1)) (wrap64 ((wrap64 (1 - t132)) - x3)))))).bind fun bt137 => (ratchetref04_Format_Round.j1 k x3 x9 (mx (wrap64 ((wrap64 (t131 - x129000)) - 1)) (wrap64 ((wrap64 (1 - t132)) - x3))) x129000 x129001 x130000 x130001 x130002 bt137.1 bt137.2.1 bt137.2.2)) else (ratchetref04_Format_Round.j1 k x3 x9 (mx (wrap64 ((wrap64 (t131 - x129000)) - 1)) (wrap64 ((wrap64 (1 - t132)) - x3))) x129000 x129001 x130000 x130001 x130002 bt133.1 bt133.2.1 bt133.2.2))))
def ratchetref04_Format_Round.j1 : Nat → Int → Int → Int → Int → Int → Int → Int → Bool → Int → Int → Bool → Option (Int)
  | 0, _, _, _, _, _, _, _, _, _, _, _ => none
  | k + 1, x3, x9, x10, x129000, x129001, x130000, x130001, x130002, x137000, x137001, x137002 => if x130000 = 0 then (ratchetref04_Format_Round.j2 k x3 x9 x10 (x130001 == 0) x129000 x129001 x130000 x130001 x130002 x137000 x137001 x137002) else (ratchetref04_Format_Round.j2 k x3 x9 x10 false x129000 x129001 x130000 x130001 x130002 x137000 x137001 x137002)
def ratchetref04_Format_Round.j2 : Nat → Int → Int → Int → Bool → Int → Int → Int → Int → Bool → Int → Int → Bool → Option (Int)
  | 0, _, _, _, _, _, _, _, _, _, _, _, _ => none
  | k + 1, x3, x9, x10, x46, x129000, x129001, x130000, x130001, x130002, x137000, x137001, x137002 => if x46 = true then (some x9) else (if x10 > 0 then ((ratchetref04_wide_right.f k x130000 x130001 x130002 (wrap64 (x10 - 1))).bind fun bt140 => (if (Go.bits .and .u64 bt140.2.1 1) = 1 then (if bt140.2.2 = true then (ratchetref04_Format_Round.j3 k (wrap64 (x3 + x10)) x9 x129000 x129001 x137000 (IntKind.u64.wrap (x137001 + 1)) x137002) else (if (Go.bits .and .u64 x137001 1) = 1 then (ratchetref04_Format_Round.j3 k (wrap64 (x3 + x10)) x9 x129000 x129001 x137000 (IntKind.u64.wrap (x137001 + 1)) x137002) else (ratchetref04_Format_Round.j3 k (wrap64 (x3 + x10)) x9 x129000 x129001 x137000 x137001 x137002))) else (ratchetref04_Format_Round.j3 k (wrap64 (x3 + x10)) x9 x129000 x129001 x137000 x137001 x137002))) else (ratchetref04_Format_Round.j3 k (wrap64 (x3 + x10)) x9 x129000 x129001 x137000 x137001 x137002))
def ratchetref04_Format_Round.j3 : Nat → Int → Int → Int → Int → Int → Int → Bool → Option (Int)
  | 0, _, _, _, _, _, _, _ => none
  | k + 1, x3, x9, x129000, x129001, x137000, x137001, x137002 => if 0 ≤ (IntKind.u64.wrap (wrap64 (x129000 + 1))) then (if (shr .u64 x137001 (IntKind.u64.wrap (wrap64 (x129000 + 1)))) = 1 then (ratchetref04_Format_Round.j4 k (wrap64 (x3 + 1)) x9 x129000 x129001 x137000 (x137001 / 2) x137002) else (ratchetref04_Format_Round.j4 k x3 x9 x129000 x129001 x137000 x137001 x137002)) else (none)
def ratchetref04_Format_Round.j4 : Nat → Int → Int → Int → Int → Int → Int → Bool → Option (Int)
  | 0, _, _, _, _, _, _, _ => none
  | k + 1, x3, x9, x129000, x129001, x137000, x137001, x137002 => if 0 ≤ (IntKind.u64.wrap (x129000)) then (if (shr .u64 x137001 (IntKind.u64.wrap (x129000))) = 0 then (some (IntKind.u64.wrap (x9 + x137001))) else ((ratchetref04_Format_bias.f x129000 x129001).bind fun t144 => (if 0 ≤ (IntKind.u64.wrap (x129001)) then (if (wrap64 (x3 + t144)) ≥ (wrap64 ((shl .i64 1 (IntKind.u64.wrap (x129001))) - 1)) then ((ratchetref04_Format_inf.f x129000 x129001).bind fun t145 => (some (IntKind.u64.wrap (x9 + t145)))) else (some (IntKind.u64.wrap ((IntKind.u64.wrap ((IntKind.u64.wrap (x9 + (shl .u64 (IntKind.u64.wrap (wrap64 (x3 + t144))) (IntKind.u64.wrap (x129000))))) + x137001)) - (shl .u64 1 (IntKind.u64.wrap (x129000))))))) else (none)))) else (none)
end
def ratchetref04_Format_Round.f (k : Nat) (a0_0 : Int) (a0_1 : Int) (a1 : Bool) (a2_0 : Int) (a2_1 : Int) (a2_2 : Bool) (a3 : Int) : Option (Int) := if a1 = true then ((ratchetref04_Format_sign.f a0_0 a0_1).bind fun t130 => (ratchetref04_Format_Round.j0 k a3 t130 a0_0 a0_1 a2_0 a2_1 a2_2)) else (ratchetref04_Format_Round.j0 k a3 0 a0_0 a0_1 a2_0 a2_1 a2_2)
theorem ratchetref04_Format_Round.mono_l : ∀ k, (∀ y0 y1 y2 y3 y4 y5 y6, LeO (ratchetref04_Format_Round.j0 k y0 y1 y2 y3 y4 y5 y6) (ratchetref04_Format_Round.j0 (k + 1) y0 y1 y2 y3 y4 y5 y6)) ∧ (∀ y0 y1 y2 y3 y4 y5 y6 y7 y8 y9 y10, LeO (ratchetref04_Format_Round.j1 k y0 y1 y2 y3 y4 y5 y6 y7 y8 y9 y10) (ratchetref04_Format_Round.j1 (k + 1) y0 y1 y2 y3 y4 y5 y6 y7 y8 y9 y10)) ∧ (∀ y0 y1 y2 y3 y4 y5 y6 y7 y8 y9 y10 y11, LeO (ratchetref04_Format_Round.j2 k y0 y1 y2 y3 y4 y5 y6 y7 y8 y9 y10 y11) (ratchetref04_Format_Round.j2 (k + 1) y0 y1 y2 y3 y4 y5 y6 y7 y8 y9 y10 y11)) ∧ (∀ y0 y1 y2 y3 y4 y5 y6, LeO (ratchetref04_Format_Round.j3 k y0 y1 y2 y3 y4 y5 y6) (ratchetref04_Format_Round.j3 (k + 1) y0 y1 y2 y3 y4 y5 y6)) ∧ (∀ y0 y1 y2 y3 y4 y5 y6, LeO (ratchetref04_Format_Round.j4 k y0 y1 y2 y3 y4 y5 y6) (ratchetref04_Format_Round.j4 (k + 1) y0 y1 y2 y3 y4 y5 y6))
  | 0 => ⟨fun _ _ _ _ _ _ _ r h => by simp [ratchetref04_Format_Round.j0] at h, fun _ _ _ _ _ _ _ _ _ _ _ r h => by simp [ratchetref04_Format_Round.j1] at h, fun _ _ _ _ _ _ _ _ _ _ _ _ r h => by simp [ratchetref04_Format_Round.j2] at h, fun _ _ _ _ _ _ _ r h => by simp [ratchetref04_Format_Round.j3] at h, fun _ _ _ _ _ _ _ r h => by simp [ratchetref04_Format_Round.j4] at h⟩
  | k + 1 => by
    obtain ⟨ih0, ih1, ih2, ih3, ih4⟩ := ratchetref04_Format_Round.mono_l k
    refine ⟨?_, ?_, ?_, ?_, ?_⟩
    · intro y0 y1 y2 y3 y4 y5 y6
      unfold ratchetref04_Format_Round.j0
      repeat' first
      | (with_reducible exact ih0 _ _ _ _ _ _ _)
      | (with_reducible exact ih1 _ _ _ _ _ _ _ _ _ _ _)
      | (with_reducible exact ih2 _ _ _ _ _ _ _ _ _ _ _ _)
      | (with_reducible exact ih3 _ _ _ _ _ _ _)
      | (with_reducible exact ih4 _ _ _ _ _ _ _)
      | (with_reducible exact ratchetref04_wide_left.mono _ _ _ _ _)
      | (with_reducible exact ratchetref04_wide_long.mono _ _ _ _)
      | (with_reducible exact ratchetref04_wide_right.mono _ _ _ _ _)
      | (with_reducible exact LeO.refl _)
      | (with_reducible exact LeO.none _)
      | (with_reducible refine LeO.ite ?_ ?_)
      | (with_reducible refine LeO.bind ?_ (fun _ => ?_))
      | exact ih0 _ _ _ _ _ _ _
      | exact ih1 _ _ _ _ _ _ _ _ _ _ _
      | exact ih2 _ _ _ _ _ _ _ _ _ _ _ _
      | exact ih3 _ _ _ _ _ _ _
      | exact ih4 _ _ _ _ _ _ _
      | exact ratchetref04_wide_left.mono _ _ _ _ _
      | exact ratchetref04_wide_long.mono _ _ _ _
      | exact ratchetref04_wide_right.mono _ _ _ _ _
      | exact LeO.none _
      | refine LeO.ite ?_ ?_
      | refine LeO.bind ?_ (fun _ => ?_)
    · intro y0 y1 y2 y3 y4 y5 y6 y7 y8 y9 y10
      unfold ratchetref04_Format_Round.j1
      repeat' first
      | (with_reducible exact ih0 _ _ _ _ _ _ _)
      | (with_reducible exact ih1 _ _ _ _ _ _ _ _ _ _ _)
      | (with_reducible exact ih2 _ _ _ _ _ _ _ _ _ _ _ _)
      | (with_reducible exact ih3 _ _ _ _ _ _ _)
      | (with_reducible exact ih4 _ _ _ _ _ _ _)
      | (with_reducible exact ratchetref04_wide_left.mono _ _ _ _ _)
      | (with_reducible exact ratchetref04_wide_long.mono _ _ _ _)
      | (with_reducible exact ratchetref04_wide_right.mono _ _ _ _ _)
      | (with_reducible exact LeO.refl _)
      | (with_reducible exact LeO.none _)
      | (with_reducible refine LeO.ite ?_ ?_)
      | (with_reducible refine LeO.bind ?_ (fun _ => ?_))
      | exact ih0 _ _ _ _ _ _ _
      | exact ih1 _ _ _ _ _ _ _ _ _ _ _
      | exact ih2 _ _ _ _ _ _ _ _ _ _ _ _
      | exact ih3 _ _ _ _ _ _ _
      | exact ih4 _ _ _ _ _ _ _
      | exact ratchetref04_wide_left.mono _ _ _ _ _
      | exact ratchetref04_wide_long.mono _ _ _ _
      | exact ratchetref04_wide_right.mono _ _ _ _ _
      | exact LeO.none _
      | refine LeO.ite ?_ ?_
      | refine LeO.bind ?_ (fun _ => ?_)
    · intro y0 y1 y2 y3 y4 y5 y6 y7 y8 y9 y10 y11
      unfold ratchetref04_Format_Round.j2
      repeat' first
      | (with_reducible exact ih0 _ _ _ _ _ _ _)
      | (with_reducible exact ih1 _ _ _ _ _ _ _ _ _ _ _)
      | (with_reducible exact ih2 _ _ _ _ _ _ _ _ _ _ _ _)
      | (with_reducible exact ih3 _ _ _ _ _ _ _)
      | (with_reducible exact ih4 _ _ _ _ _ _ _)
      | (with_reducible exact ratchetref04_wide_left.mono _ _ _ _ _)
      | (with_reducible exact ratchetref04_wide_long.mono _ _ _ _)
      | (with_reducible exact ratchetref04_wide_right.mono _ _ _ _ _)
      | (with_reducible exact LeO.refl _)
      | (with_reducible exact LeO.none _)
      | (with_reducible refine LeO.ite ?_ ?_)
      | (with_reducible refine LeO.bind ?_ (fun _ => ?_))
      | exact ih0 _ _ _ _ _ _ _
      | exact ih1 _ _ _ _ _ _ _ _ _ _ _
      | exact ih2 _ _ _ _ _ _ _ _ _ _ _ _
      | exact ih3 _ _ _ _ _ _ _
      | exact ih4 _ _ _ _ _ _ _
      | exact ratchetref04_wide_left.mono _ _ _ _ _
      | exact ratchetref04_wide_long.mono _ _ _ _
      | exact ratchetref04_wide_right.mono _ _ _ _ _
      | exact LeO.none _
      | refine LeO.ite ?_ ?_
      | refine LeO.bind ?_ (fun _ => ?_)
    · intro y0 y1 y2 y3 y4 y5 y6
      unfold ratchetref04_Format_Round.j3
      repeat' first
      | (with_reducible exact ih0 _ _ _ _ _ _ _)
      | (with_reducible exact ih1 _ _ _ _ _ _ _ _ _ _ _)
      | (with_reducible exact ih2 _ _ _ _ _ _ _ _ _ _ _ _)
      | (with_reducible exact ih3 _ _ _ _ _ _ _)
      | (with_reducible exact ih4 _ _ _ _ _ _ _)
      | (with_reducible exact ratchetref04_wide_left.mono _ _ _ _ _)
      | (with_reducible exact ratchetref04_wide_long.mono _ _ _ _)
      | (with_reducible exact ratchetref04_wide_right.mono _ _ _ _ _)
      | (with_reducible exact LeO.refl _)
      | (with_reducible exact LeO.none _)
      | (with_reducible refine LeO.ite ?_ ?_)
      | (with_reducible refine LeO.bind ?_ (fun _ => ?_))
      | exact ih0 _ _ _ _ _ _ _
      | exact ih1 _ _ _ _ _ _ _ _ _ _ _
      | exact ih2 _ _ _ _ _ _ _ _ _ _ _ _
      | exact ih3 _ _ _ _ _ _ _
      | exact ih4 _ _ _ _ _ _ _
      | exact ratchetref04_wide_left.mono _ _ _ _ _
      | exact ratchetref04_wide_long.mono _ _ _ _
      | exact ratchetref04_wide_right.mono _ _ _ _ _
      | exact LeO.none _
      | refine LeO.ite ?_ ?_
      | refine LeO.bind ?_ (fun _ => ?_)
    · intro y0 y1 y2 y3 y4 y5 y6
      unfold ratchetref04_Format_Round.j4
      repeat' first
      | (with_reducible exact ih0 _ _ _ _ _ _ _)
      | (with_reducible exact ih1 _ _ _ _ _ _ _ _ _ _ _)
      | (with_reducible exact ih2 _ _ _ _ _ _ _ _ _ _ _ _)
      | (with_reducible exact ih3 _ _ _ _ _ _ _)
      | (with_reducible exact ih4 _ _ _ _ _ _ _)
      | (with_reducible exact ratchetref04_wide_left.mono _ _ _ _ _)
      | (with_reducible exact ratchetref04_wide_long.mono _ _ _ _)
      | (with_reducible exact ratchetref04_wide_right.mono _ _ _ _ _)
      | (with_reducible exact LeO.refl _)
      | (with_reducible exact LeO.none _)
      | (with_reducible refine LeO.ite ?_ ?_)
      | (with_reducible refine LeO.bind ?_ (fun _ => ?_))
      | exact ih0 _ _ _ _ _ _ _
      | exact ih1 _ _ _ _ _ _ _ _ _ _ _
      | exact ih2 _ _ _ _ _ _ _ _ _ _ _ _
      | exact ih3 _ _ _ _ _ _ _
      | exact ih4 _ _ _ _ _ _ _
      | exact ratchetref04_wide_left.mono _ _ _ _ _
      | exact ratchetref04_wide_long.mono _ _ _ _
      | exact ratchetref04_wide_right.mono _ _ _ _ _
      | exact LeO.none _
      | refine LeO.ite ?_ ?_
      | refine LeO.bind ?_ (fun _ => ?_)
theorem ratchetref04_Format_Round.mono : ∀ a0 a1 a2 a3 a4 a5 a6 k, LeO (ratchetref04_Format_Round.f k a0 a1 a2 a3 a4 a5 a6) (ratchetref04_Format_Round.f (k + 1) a0 a1 a2 a3 a4 a5 a6) := by
  intro a0 a1 a2 a3 a4 a5 a6 k
  obtain ⟨ih0, ih1, ih2, ih3, ih4⟩ := ratchetref04_Format_Round.mono_l k
  unfold ratchetref04_Format_Round.f
  repeat' first
      | (with_reducible exact ih0 _ _ _ _ _ _ _)
      | (with_reducible exact ih1 _ _ _ _ _ _ _ _ _ _ _)
      | (with_reducible exact ih2 _ _ _ _ _ _ _ _ _ _ _ _)
      | (with_reducible exact ih3 _ _ _ _ _ _ _)
      | (with_reducible exact ih4 _ _ _ _ _ _ _)
      | (with_reducible exact ratchetref04_wide_left.mono _ _ _ _ _)
      | (with_reducible exact ratchetref04_wide_long.mono _ _ _ _)
      | (with_reducible exact ratchetref04_wide_right.mono _ _ _ _ _)
      | (with_reducible exact LeO.refl _)
      | (with_reducible exact LeO.none _)
      | (with_reducible refine LeO.ite ?_ ?_)
      | (with_reducible refine LeO.bind ?_ (fun _ => ?_))
      | exact ih0 _ _ _ _ _ _ _
      | exact ih1 _ _ _ _ _ _ _ _ _ _ _
      | exact ih2 _ _ _ _ _ _ _ _ _ _ _ _
      | exact ih3 _ _ _ _ _ _ _
      | exact ih4 _ _ _ _ _ _ _
      | exact ratchetref04_wide_left.mono _ _ _ _ _
      | exact ratchetref04_wide_long.mono _ _ _ _
      | exact ratchetref04_wide_right.mono _ _ _ _ _
      | exact LeO.none _
      | refine LeO.ite ?_ ?_
      | refine LeO.bind ?_ (fun _ => ?_)
def ratchetref04_Format_Round.T4 : Bool × List (List Nat × List Nat) := (true, [([], []), ([0], [0]), ([], []), ([2], [2]), ([1, 3], [1, 3]), ([4], [4]), ([], []), ([6, 1], [6]), ([7], [7]), ([], []), ([8, 9], [8, 9]), ([5, 10], [5, 10]), ([11, 7, 0, 1, 2, 3, 4, 5, 6, 7, 8, 9, 10, 11], [11])])
def ratchetref04_Format_Round.B4 : List Nat := [0, 1, 0, 4, 15, 31, 0, 67, 195, 0, 963, 2047, 4095]
theorem ratchetref04_Format_Round.tab4 : rtab .any (opsOf Try.f82 4) = ratchetref04_Format_Round.T4 := by kernel_rfl
theorem ratchetref04_Format_Round.bits4 : waitsOk ratchetref04_Format_Round.T4.2 ratchetref04_Format_Round.B4 = true := by kernel_rfl
set_option maxHeartbeats 8000000 in
set_option maxRecDepth 100000 in
theorem ratchetref04_Format_Round.calls (k : Nat) (a0_0 : Int) (a0_1 : Int) (a1 : Bool) (a2_0 : Int) (a2_1 : Int) (a2_2 : Bool) (a3 : Int) (r : Int) (w : World) (h : ratchetref04_Format_Round.f k a0_0 a0_1 a1 a2_0 a2_1 a2_2 a3 = some r) :
    Calls Try.prog 82 #[.agg #[.int .i64 a0_0, .int .i64 a0_1], .bool a1, .agg #[.int .u64 a2_0, .int .u64 a2_1, .bool a2_2], .int .i64 a3] w fun e w' => e = .returned (.int .u64 r) ∧ Below w.heap.size w w' := by
  have hu56 := Try.underlying56
  have hu97 := Try.underlying97
  have HB := Aside0.mk (Below.refl w.heap.size w)
  have H : (if a1 = true then ((ratchetref04_Format_sign.f a0_0 a0_1).bind fun t130 => (ratchetref04_Format_Round.j0 k a3 t130 a0_0 a0_1 a2_0 a2_1 a2_2)) else (ratchetref04_Format_Round.j0 k a3 0 a0_0 a0_1 a2_0 a2_1 a2_2)) = some r := h
  clear h
  have HC5 := Aside0.mk H
  clear H
  go_enter Try.func82, Try.ntmps82
  go_upto_if 15 with (first | ((with_reducible refine gate_dst (N := 4) rfl ?_); refine box_event ?hg (N := 4) ?hd (cs := #[.int .i64 a0_0, .int .i64 a0_1]) (t := 56) ?hr ?_; (case hd => rfl); (case hg => rfl); (case hr => first | (go_simp; done) | (go_simp; rfl)); intro gb128 hg w6 hbox hb; have n0_ := Aside0.mk (below_step (by repeat (first | (with_reducible first | exact HB.out | apply below_alloc | apply pw_below_drewN | apply below_drew1) | exact HB.out)) hb); have n1_ := Aside0.mk (hbox); have n2_ := Aside0.mk ((by rw [hg]; exact (below_size (by repeat (first | (with_reducible first | exact HB.out | apply below_alloc | apply pw_below_drewN | apply below_drew1) | exact HB.out))) : w.heap.size ≤ gb128)); have n3_ := Aside0.mk ((by rw [hg]; exact (below_size (by repeat (first | (with_reducible first | exact HB.out | apply below_alloc | apply pw_below_drewN | apply below_drew1) | exact HB.out))) : w.heap.size ≤ gb128)); clear HB; have HB := n0_; have BK128 := n1_; have GW128 := n2_; have GE128 := n3_; clear n0_ n1_ n2_ n3_; clear hb hbox hg) | ((with_reducible refine gate_dst (N := 6) rfl ?_); refine box_event ?hg (N := 6) ?hd (cs := #[.int .u64 a2_0, .int .u64 a2_1, .bool a2_2]) (t := 97) ?hr ?_; (case hd => rfl); (case hg => rfl); (case hr => first | (go_simp; done) | (go_simp; rfl)); intro gb129 hg w7 hbox hb; have n0_ := Aside0.mk (blk_below (g := gb128) (o := .cells #[.int .i64 a0_0, .int .i64 a0_1] 56 (0, 0)) (by (with_reducible repeat (first | refine blk_drewN ?_ _ | refine blk_drew ?_ | refine blk_alloc ?_ _)); exact BK128.out) hb); have n1_ := Aside0.mk (below_step (by repeat (first | (with_reducible first | exact HB.out | apply below_alloc | apply pw_below_drewN | apply below_drew1 | refine below_set ?_ GE128.out) | exact HB.out)) hb); have n2_ := Aside0.mk (hbox); have n3_ := Aside0.mk ((by rw [hg]; exact (below_size (by repeat (first | (with_reducible first | exact HB.out | apply below_alloc | apply pw_below_drewN | apply below_drew1 | refine below_set ?_ GE128.out) | exact HB.out))) : w.heap.size ≤ gb129)); have n4_ := Aside0.mk ((by rw [hg]; exact (below_size (by repeat (first | (with_reducible first | exact HB.out | apply below_alloc | apply pw_below_drewN | apply below_drew1 | refine below_set ?_ GE128.out) | exact HB.out))) : w.heap.size ≤ gb129)); have n5_ := Aside0.mk ((by rw [hg]; exact Nat.ne_of_lt (blk_lt (g := gb128) (o := .cells #[.int .i64 a0_0, .int .i64 a0_1] 56 (0, 0)) (by (with_reducible repeat (first | refine blk_drewN ?_ _ | refine blk_drew ?_ | refine blk_alloc ?_ _)); exact BK128.out)) : gb128 ≠ gb129)); have n6_ := Aside0.mk ((by rw [hg]; exact Nat.ne_of_gt (blk_lt (g := gb128) (o := .cells #[.int .i64 a0_0, .int .i64 a0_1] 56 (0, 0)) (by (with_reducible repeat (first | refine blk_drewN ?_ _ | refine blk_drew ?_ | refine blk_alloc ?_ _)); exact BK128.out)) : gb129 ≠ gb128)); clear BK128; clear HB; have BK128 := n0_; have HB := n1_; have BK129 := n2_; have GW129 := n3_; have GE129 := n4_; have NB128_129 := n5_; have NB129_128 := n6_; clear n0_ n1_ n2_ n3_ n4_ n5_ n6_; clear hb hbox hg))
  (try simp only [Act.put, List.setIfInBounds_toArray, List.set_cons_zero, List.set_cons_succ])
  go_cut [9] (fun v9 wc => ∃ (kq : Nat) (x9_4 : Int), v9 = .int .u64 x9_4 ∧ Aside0 (ratchetref04_Format_Round.j0 kq a3 x9_4 a0_0 a0_1 a2_0 a2_1 a2_2 = some r) ∧ Aside0 (kq ≤ k) ∧ Aside0 (wc.heap[gb128]? = some (.cells #[.int .i64 a0_0, .int .i64 a0_1] 56 (0, 0))) ∧ Aside0 (wc.heap[gb129]? = some (.cells #[.int .u64 a2_0, .int .u64 a2_1, .bool a2_2] 97 (0, 0))) ∧ Aside0 (Below w.heap.size w wc))
  case first =>
    have H := HC5.out
    clear HC5
    by_cases c8 : a1 = true
    · subst c8
      have H1 : ((ratchetref04_Format_sign.f a0_0 a0_1).bind fun t130 => (ratchetref04_Format_Round.j0 k a3 t130 a0_0 a0_1 a2_0 a2_1 a2_2)) = some r := by rw [if_pos rfl] at H; exact H
      clear H
      have H := H1
      clear H1
      replace H := Option.bind_eq_some_iff.mp H
      obtain ⟨t130, A90, H⟩ := H
      replace H : (ratchetref04_Format_Round.j0 k a3 t130 a0_0 a0_1 a2_0 a2_1 a2_2) = some r := H
      have A9 := Aside0.mk A90
      clear A90
      have H' := Aside0.mk H
      clear H
      have hnb10 := NB128_129.out
      have hnc10 := NB129_128.out
      have hcz11_0 : w7.cell? ⟨gb128, 0, none⟩ = some (.int .i64 a0_0) := (blk_cell BK128.out 0).trans rfl
      have hcz11_1 : w7.cell? ⟨gb128, 1, none⟩ = some (.int .i64 a0_1) := (blk_cell BK128.out 1).trans rfl
      have hfz11_0 := blk_frozen BK128.out 0
      have hfz11_1 := blk_frozen BK128.out 1
      go_wp2_with (first | ((with_reducible refine gate_callee (f := 68) rfl ?_); refine goesL_ (some 17) rfl rfl Try.func68 (by kernel_rfl) rfl #[.agg #[.int .i64 a0_0, .int .i64 a0_1]] rfl (by (try simp only [List.map_toArray, List.map_cons, List.map_nil]); first | done | rfl | (simp only [List.length_drop, List.length_take]; rfl)) ?_; (with_reducible refine (ratchetref04_Format_sign.calls a0_0 a0_1 t130 _ A9.out).mono ?_); rintro e w12 ⟨rfl, hb⟩; refine ⟨_, rfl, ?_⟩; have n0_ := Aside0.mk (blk_below (g := gb128) (o := .cells #[.int .i64 a0_0, .int .i64 a0_1] 56 (0, 0)) (by (with_reducible repeat (first | refine blk_drewN ?_ _ | refine blk_drew ?_ | refine blk_alloc ?_ _)); exact BK128.out) hb); have n1_ := Aside0.mk (blk_below (g := gb129) (o := .cells #[.int .u64 a2_0, .int .u64 a2_1, .bool a2_2] 97 (0, 0)) (by (with_reducible repeat (first | refine blk_drewN ?_ _ | refine blk_drew ?_ | refine blk_alloc ?_ _)); exact BK129.out) hb); have n2_ := Aside0.mk (below_step (by repeat (first | (with_reducible first | exact HB.out | apply below_alloc | apply pw_below_drewN | apply below_drew1 | refine below_set ?_ GE128.out | refine below_set ?_ GE129.out) | exact HB.out)) hb); clear BK128; clear BK129; clear HB; have BK128 := n0_; have BK129 := n1_; have HB := n2_; clear n0_ n1_ n2_; (try clear hb); (try clear hb2); (try clear hk); (try clear hi)))
      go_meet
      case rel => exact ⟨_, (t130), (by first | rfl | (simp; done) | (simp [*]; done)), H', ⟨by first | omega | exact Nat.le_refl _⟩, ⟨by (with_reducible repeat (first | refine blk_drewN ?_ _ | refine blk_drew ?_ | refine blk_alloc ?_ _)); exact BK128.out⟩, ⟨by (with_reducible repeat (first | refine blk_drewN ?_ _ | refine blk_drew ?_ | refine blk_alloc ?_ _)); exact BK129.out⟩, ⟨by repeat (first | (with_reducible first | exact HB.out | apply below_alloc | apply pw_below_drewN | apply below_drew1 | refine below_set ?_ GE128.out | refine below_set ?_ GE129.out) | exact HB.out)⟩⟩
    · replace c8 := Bool.eq_false_iff.mpr c8
      subst c8
      have H1 : (ratchetref04_Format_Round.j0 k a3 0 a0_0 a0_1 a2_0 a2_1 a2_2) = some r := by rw [if_neg (show ¬ (false = true) by decide)] at H; exact H
      clear H
      have H := H1
      clear H1
      have H' := Aside0.mk H
      clear H
      go_wp2
      go_meet
      case rel => exact ⟨_, (0), (by first | rfl | (simp; done) | (simp [*]; done)), H', ⟨by first | omega | exact Nat.le_refl _⟩, ⟨by (with_reducible repeat (first | refine blk_drewN ?_ _ | refine blk_drew ?_ | refine blk_alloc ?_ _)); exact BK128.out⟩, ⟨by (with_reducible repeat (first | refine blk_drewN ?_ _ | refine blk_drew ?_ | refine blk_alloc ?_ _)); exact BK129.out⟩, ⟨by repeat (first | (with_reducible first | exact HB.out | apply below_alloc | apply pw_below_drewN | apply below_drew1 | refine below_set ?_ GE128.out | refine below_set ?_ GE129.out) | exact HB.out)⟩⟩
  case rest =>
    clear HC5
    try clear c1
    try clear p2
    try clear c6
    try clear c8
    try clear c10
    try clear hcz11_0
    try clear hcz11_1
    try clear hfz11_0
    try clear hfz11_1
    obtain ⟨kq, x9_4, rfl, HA, HJ4, BK128, BK129, HB⟩ := hcut
    cases kq with
    | zero => exact absurd HA.out (by simp [ratchetref04_Format_Round.j0])
    | succ kj4 =>
      have H := HA.out
      clear HA
      simp only [ratchetref04_Format_Round.j0] at H
      replace H := Option.bind_eq_some_iff.mp H
      obtain ⟨t131, A130, H⟩ := H
      replace H : ((ratchetref04_Format_bias.f a0_0 a0_1).bind fun t132 => ((ratchetref04_wide_right.f kj4 a2_0 a2_1 a2_2 (mx (wrap64 ((wrap64 (t131 - a0_0)) - 1)) (wrap64 ((wrap64 (1 - t132)) - a3)))).bind fun bt133 => (if (mx (wrap64 ((wrap64 (t131 - a0_0)) - 1)) (wrap64 ((wrap64 (1 - t132)) - a3))) ≤ 0 then ((ratchetref04_wide_left.f kj4 a2_0 a2_1 a2_2 (wrap64 (-(mx (wrap64 ((wrap64 (t131 - a0_0)) - 1)) (wrap64 ((wrap64 (1 - t132)) - a3)))))).bind fun bt137 => (ratchetref04_Format_Round.j1 kj4 a3 x9_4 (mx (wrap64 ((wrap64 (t131 - a0_0)) - 1)) (wrap64 ((wrap64 (1 - t132)) - a3))) a0_0 a0_1 a2_0 a2_1 a2_2 bt137.1 bt137.2.1 bt137.2.2)) else (ratchetref04_Format_Round.j1 kj4 a3 x9_4 (mx (wrap64 ((wrap64 (t131 - a0_0)) - 1)) (wrap64 ((wrap64 (1 - t132)) - a3))) a0_0 a0_1 a2_0 a2_1 a2_2 bt133.1 bt133.2.1 bt133.2.2)))) = some r := H
      have A13 := Aside0.mk A130
      clear A130
      replace H := Option.bind_eq_some_iff.mp H
      obtain ⟨t132, A140, H⟩ := H
      replace H : ((ratchetref04_wide_right.f kj4 a2_0 a2_1 a2_2 (mx (wrap64 ((wrap64 (t131 - a0_0)) - 1)) (wrap64 ((wrap64 (1 - t132)) - a3)))).bind fun bt133 => (if (mx (wrap64 ((wrap64 (t131 - a0_0)) - 1)) (wrap64 ((wrap64 (1 - t132)) - a3))) ≤ 0 then ((ratchetref04_wide_left.f kj4 a2_0 a2_1 a2_2 (wrap64 (-(mx (wrap64 ((wrap64 (t131 - a0_0)) - 1)) (wrap64 ((wrap64 (1 - t132)) - a3)))))).bind fun bt137 => (ratchetref04_Format_Round.j1 kj4 a3 x9_4 (mx (wrap64 ((wrap64 (t131 - a0_0)) - 1)) (wrap64 ((wrap64 (1 - t132)) - a3))) a0_0 a0_1 a2_0 a2_1 a2_2 bt137.1 bt137.2.1 bt137.2.2)) else (ratchetref04_Format_Round.j1 kj4 a3 x9_4 (mx (wrap64 ((wrap64 (t131 - a0_0)) - 1)) (wrap64 ((wrap64 (1 - t132)) - a3))) a0_0 a0_1 a2_0 a2_1 a2_2 bt133.1 bt133.2.1 bt133.2.2))) = some r := H
      have A14 := Aside0.mk A140
      clear A140
      obtain ⟨ji15, hji15⟩ : ∃ j_ : Int, (mx (wrap64 ((wrap64 (t131 - a0_0)) - 1)) (wrap64 ((wrap64 (1 - t132)) - a3))) = j_ := ⟨_, rfl⟩
      replace H : ((ratchetref04_wide_right.f kj4 a2_0 a2_1 a2_2 (ji15)).bind fun bt133 => (if (ji15) ≤ 0 then ((ratchetref04_wide_left.f kj4 a2_0 a2_1 a2_2 (wrap64 (-(ji15)))).bind fun bt137 => (ratchetref04_Format_Round.j1 kj4 a3 x9_4 ji15 a0_0 a0_1 a2_0 a2_1 a2_2 bt137.1 bt137.2.1 bt137.2.2)) else (ratchetref04_Format_Round.j1 kj4 a3 x9_4 ji15 a0_0 a0_1 a2_0 a2_1 a2_2 bt133.1 bt133.2.1 bt133.2.2))) = some r := by first | (rw [hji15] at H; exact H) | (simp only [hji15] at H ⊢; exact H)
      (try rw [hji15] at A13)
      (try rw [hji15] at A14)
      have hji15_ : (if (wrap64 ((wrap64 (t131 - a0_0)) - 1)) < (wrap64 ((wrap64 (1 - t132)) - a3)) then (wrap64 ((wrap64 (1 - t132)) - a3)) else (wrap64 ((wrap64 (t131 - a0_0)) - 1))) = ji15 := hji15
      replace H := Option.bind_eq_some_iff.mp H
      obtain ⟨⟨t133, t134, t135⟩, A160, H⟩ := H
      replace H : (if (ji15) ≤ 0 then ((ratchetref04_wide_left.f kj4 a2_0 a2_1 a2_2 (wrap64 (-(ji15)))).bind fun bt137 => (ratchetref04_Format_Round.j1 kj4 a3 x9_4 ji15 a0_0 a0_1 a2_0 a2_1 a2_2 bt137.1 bt137.2.1 bt137.2.2)) else (ratchetref04_Format_Round.j1 kj4 a3 x9_4 ji15 a0_0 a0_1 a2_0 a2_1 a2_2 t133 t134 t135)) = some r := H
      have A16 := Aside0.mk A160
      clear A160
      have HC17 := Aside0.mk H
      clear H
      try go_wp2
      have n0_ := Aside0.mk (blk_drew BK128.out)
      have n1_ := Aside0.mk (blk_drew BK129.out)
      have n2_ := Aside0.mk (below_drew1 HB.out)
      clear BK128
      clear BK129
      clear HB
      have BK128 := n0_
      have BK129 := n1_
      have HB := n2_
      clear n0_ n1_ n2_
      refine start_ (n := 13) (S := fun w' => w'.cell? ⟨gb129, 0, none⟩ = some (.int .u64 a2_0) ∧ w'.cell? ⟨gb129, 1, none⟩ = some (.int .u64 a2_1) ∧ w'.cell? ⟨gb129, 2, none⟩ = some (.bool a2_2) ∧ w'.cell? ⟨gb128, 0, none⟩ = some (.int .i64 a0_0) ∧ w'.cell? ⟨gb128, 1, none⟩ = some (.int .i64 a0_1)) (ds := []) #[false, false, false, false, false, false, false, false, false, false, false, false, false] (by kernel_rfl) rfl rfl ⟨(blk_cell BK129.out 0).trans rfl, (blk_cell BK129.out 1).trans rfl, (blk_cell BK129.out 2).trans rfl, (blk_cell BK128.out 0).trans rfl, (blk_cell BK128.out 1).trans rfl⟩ (fun hHeld => ?_); refine with_tabW ratchetref04_Format_Round.tab4 ratchetref04_Format_Round.bits4 (fun HT_ HW_ => ?_)
      generalize wc.drew = w18 at BK128 BK129 HB hHeld ⊢
      refine pure_ (i := 2) (N := some 20) (v := ?_) (a' := ?_) #[false, false, true, false, false, false, false, false, false, false, false, false, false] rfl rfl (any_of HT_.out (by kernel_rfl)) (fun _ _ _ h => h) (Or.inl ⟨by rfl, ?_⟩) ?_ ?_
      rotate_left
      · intro w'
        go_simp
        with_reducible rfl
      rotate_left
      · simp only [Act.put, List.setIfInBounds_toArray, List.set_cons_zero, List.set_cons_succ, i64_w, i32_w]
        rfl
      refine pure_ (i := 9) (N := some 27) (v := ?_) (a' := ?_) #[false, false, true, false, false, false, false, false, false, true, false, false, false] rfl rfl (any_of HT_.out (by kernel_rfl)) (fun _ _ _ h => h) (Or.inl ⟨by rfl, ?_⟩) ?_ ?_
      rotate_left
      · intro w'
        go_simp
        with_reducible rfl
      rotate_left
      · simp only [Act.put, List.setIfInBounds_toArray, List.set_cons_zero, List.set_cons_succ, i64_w, i32_w]
        rfl
      refine take_ (i := 0) (N := some 18) (v := ?_) (a' := ?_) #[true, false, true, false, false, false, false, false, false, true, false, false, false] rfl rfl (take_ofW HT_.out HW_.out (by kernel_rfl)) (fun _ _ _ h => h) (Or.inl ⟨by rfl, ?_⟩) hHeld ?_ ?_
      rotate_left
      · rintro w' ⟨s0, s1, s2, s3, s4⟩
        go_simp
        with_reducible rfl
      rotate_left
      · simp only [Act.put, List.setIfInBounds_toArray, List.set_cons_zero, List.set_cons_succ, i64_w, i32_w]
        rfl
      refine take_ (i := 3) (N := some 21) (v := ?_) (a' := ?_) #[true, false, true, true, false, false, false, false, false, true, false, false, false] rfl rfl (take_ofW HT_.out HW_.out (by kernel_rfl)) (fun _ _ _ h => h) (Or.inl ⟨by rfl, ?_⟩) hHeld ?_ ?_
      rotate_left
      · rintro w' ⟨s0, s1, s2, s3, s4⟩
        go_simp
        with_reducible rfl
      rotate_left
      · simp only [Act.put, List.setIfInBounds_toArray, List.set_cons_zero, List.set_cons_succ, i64_w, i32_w]
        rfl
      refine take_ (i := 6) (N := some 24) (v := ?_) (a' := ?_) #[true, false, true, true, false, false, true, false, false, true, false, false, false] rfl rfl (take_ofW HT_.out HW_.out (by kernel_rfl)) (fun _ _ _ h => h) (Or.inl ⟨by rfl, ?_⟩) hHeld ?_ ?_
      rotate_left
      · rintro w' ⟨s0, s1, s2, s3, s4⟩
        go_simp
        with_reducible rfl
      rotate_left
      · simp only [Act.put, List.setIfInBounds_toArray, List.set_cons_zero, List.set_cons_succ, i64_w, i32_w]
        rfl
      refine one_ (i := 1) (N := some 19) #[true, true, true, true, false, false, true, false, false, true, false, false, false] rfl rfl (one_of HT_.out (by kernel_rfl)) (by decide) (fun K hK => ?_)
      refine goes_ Try.func100 (by kernel_rfl) rfl #[.agg #[.int .u64 a2_0, .int .u64 a2_1, .bool a2_2]] (by rfl) rfl rfl (by (try simp only [List.map_toArray, List.map_cons, List.map_nil]); first | done | rfl | (simp only [List.length_drop, List.length_take]; rfl)) ?_
      with_reducible refine (ratchetref04_wide_long.calls kj4 a2_0 a2_1 a2_2 t131 _ A13.out).mono ?_
      rintro e w19 ⟨rfl, hb⟩
      refine ⟨_, rfl, ?_⟩
      have n0_ := Aside0.mk (blk_below (g := gb128) (o := .cells #[.int .i64 a0_0, .int .i64 a0_1] 56 (0, 0)) (by (with_reducible repeat (first | refine blk_drewN ?_ _ | refine blk_drew ?_ | refine blk_alloc ?_ _)); exact BK128.out) hb)
      have n1_ := Aside0.mk (blk_below (g := gb129) (o := .cells #[.int .u64 a2_0, .int .u64 a2_1, .bool a2_2] 97 (0, 0)) (by (with_reducible repeat (first | refine blk_drewN ?_ _ | refine blk_drew ?_ | refine blk_alloc ?_ _)); exact BK129.out) hb)
      have n2_ := Aside0.mk (below_step (by repeat (first | (with_reducible first | exact HB.out | apply below_alloc | apply pw_below_drewN | apply below_drew1 | refine below_set ?_ GE128.out | refine below_set ?_ GE129.out) | exact HB.out)) hb)
      clear BK128
      clear BK129
      clear HB
      have BK128 := n0_
      have BK129 := n1_
      have HB := n2_
      clear n0_ n1_ n2_
      (try clear hb)
      (try clear hb2)
      (try clear hk)
      (try clear hi)
      refine hK.out _ _ ⟨(blk_cell BK129.out 0).trans rfl, (blk_cell BK129.out 1).trans rfl, (blk_cell BK129.out 2).trans rfl, (blk_cell BK128.out 0).trans rfl, (blk_cell BK128.out 1).trans rfl⟩ (fun hHeld => ?_)
      clear hK K
      refine norm_ (a' := ?_) ?_ ?_
      rotate_left
      · show Act.put _ (some 19) _ = _
        simp only [Act.put, List.setIfInBounds_toArray, List.set_cons_zero, List.set_cons_succ, i64_w, i32_w]
        rfl
      refine pure_ (i := 4) (N := some 22) (v := ?_) (a' := ?_) #[true, true, true, true, true, false, true, false, false, true, false, false, false] rfl rfl (any_of HT_.out (by kernel_rfl)) (fun _ _ _ h => h) (Or.inl ⟨by rfl, ?_⟩) ?_ ?_
      rotate_left
      · intro w'
        go_simp
        with_reducible rfl
      rotate_left
      · simp only [Act.put, List.setIfInBounds_toArray, List.set_cons_zero, List.set_cons_succ, i64_w, i32_w]
        rfl
      refine pure_ (i := 5) (N := some 23) (v := ?_) (a' := ?_) #[true, true, true, true, true, true, true, false, false, true, false, false, false] rfl rfl (any_of HT_.out (by kernel_rfl)) (fun _ _ _ h => h) (Or.inl ⟨by rfl, ?_⟩) ?_ ?_
      rotate_left
      · intro w'
        go_simp
        with_reducible rfl
      rotate_left
      · simp only [Act.put, List.setIfInBounds_toArray, List.set_cons_zero, List.set_cons_succ, i64_w, i32_w]
        rfl
      refine one_ (i := 7) (N := some 25) #[true, true, true, true, true, true, true, true, false, true, false, false, false] rfl rfl (one_of HT_.out (by kernel_rfl)) (by decide) (fun K hK => ?_)
      refine goes_ Try.func101 (by kernel_rfl) rfl #[.agg #[.int .i64 a0_0, .int .i64 a0_1]] (by rfl) rfl rfl (by (try simp only [List.map_toArray, List.map_cons, List.map_nil]); first | done | rfl | (simp only [List.length_drop, List.length_take]; rfl)) ?_
      with_reducible refine (ratchetref04_Format_bias.calls a0_0 a0_1 t132 _ A14.out).mono ?_
      rintro e w20 ⟨rfl, hb⟩
      refine ⟨_, rfl, ?_⟩
      have n0_ := Aside0.mk (blk_below (g := gb128) (o := .cells #[.int .i64 a0_0, .int .i64 a0_1] 56 (0, 0)) (by (with_reducible repeat (first | refine blk_drewN ?_ _ | refine blk_drew ?_ | refine blk_alloc ?_ _)); exact BK128.out) hb)
      have n1_ := Aside0.mk (blk_below (g := gb129) (o := .cells #[.int .u64 a2_0, .int .u64 a2_1, .bool a2_2] 97 (0, 0)) (by (with_reducible repeat (first | refine blk_drewN ?_ _ | refine blk_drew ?_ | refine blk_alloc ?_ _)); exact BK129.out) hb)
      have n2_ := Aside0.mk (below_step (by repeat (first | (with_reducible first | exact HB.out | apply below_alloc | apply pw_below_drewN | apply below_drew1 | refine below_set ?_ GE128.out | refine below_set ?_ GE129.out) | exact HB.out)) hb)
      clear BK128
      clear BK129
      clear HB
      have BK128 := n0_
      have BK129 := n1_
      have HB := n2_
      clear n0_ n1_ n2_
      (try clear hb)
      (try clear hb2)
      (try clear hk)
      (try clear hi)
      refine hK.out _ _ ⟨(blk_cell BK129.out 0).trans rfl, (blk_cell BK129.out 1).trans rfl, (blk_cell BK129.out 2).trans rfl, (blk_cell BK128.out 0).trans rfl, (blk_cell BK128.out 1).trans rfl⟩ (fun hHeld => ?_)
      clear hK K
      refine norm_ (a' := ?_) ?_ ?_
      rotate_left
      · show Act.put _ (some 25) _ = _
        simp only [Act.put, List.setIfInBounds_toArray, List.set_cons_zero, List.set_cons_succ, i64_w, i32_w]
        rfl
      refine pure_ (i := 8) (N := some 26) (v := ?_) (a' := ?_) #[true, true, true, true, true, true, true, true, true, true, false, false, false] rfl rfl (any_of HT_.out (by kernel_rfl)) (fun _ _ _ h => h) (Or.inl ⟨by rfl, ?_⟩) ?_ ?_
      rotate_left
      · intro w'
        go_simp
        with_reducible rfl
      rotate_left
      · simp only [Act.put, List.setIfInBounds_toArray, List.set_cons_zero, List.set_cons_succ, i64_w, i32_w]
        rfl
      refine pure_ (i := 10) (N := some 28) (v := ?_) (a' := ?_) #[true, true, true, true, true, true, true, true, true, true, true, false, false] rfl rfl (any_of HT_.out (by kernel_rfl)) (fun _ _ _ h => h) (Or.inl ⟨by rfl, ?_⟩) ?_ ?_
      rotate_left
      · intro w'
        go_simp
        with_reducible rfl
      rotate_left
      · simp only [Act.put, List.setIfInBounds_toArray, List.set_cons_zero, List.set_cons_succ, i64_w, i32_w]
        rfl
      refine pure_ (i := 11) (N := some 29) (v := ?_) (a' := ?_) #[true, true, true, true, true, true, true, true, true, true, true, true, false] rfl rfl (any_of HT_.out (by kernel_rfl)) (fun _ _ _ h => h) (Or.inl ⟨by rfl, ?_⟩) ?_ ?_
      rotate_left
      · intro w'
        go_simp
        with_reducible rfl
      rotate_left
      · simp only [Act.put, List.setIfInBounds_toArray, List.set_cons_zero, List.set_cons_succ, i64_w, i32_w]
        rfl
      refine pure_ (i := 12) (N := some 10) (v := ?_) (a' := ?_) #[true, true, true, true, true, true, true, true, true, true, true, true, true] rfl rfl (any_of HT_.out (by kernel_rfl)) (fun _ _ _ h => h) (Or.inl ⟨by rfl, ?_⟩) ?_ ?_
      rotate_left
      · intro w'
        go_simp
        with_reducible rfl
      rotate_left
      · simp only [Act.put, List.setIfInBounds_toArray, List.set_cons_zero, List.set_cons_succ, i64_w, i32_w]
        rfl
      refine done_ (done_of HT_.out (by kernel_rfl)) ?_
      have hnb21 := NB129_128.out
      have hnc21 := NB128_129.out
      have hcz22_0 : w20.cell? ⟨gb129, 0, none⟩ = some (.int .u64 a2_0) := (blk_cell BK129.out 0).trans rfl
      have hcz22_1 : w20.cell? ⟨gb129, 1, none⟩ = some (.int .u64 a2_1) := (blk_cell BK129.out 1).trans rfl
      have hcz22_2 : w20.cell? ⟨gb129, 2, none⟩ = some (.bool a2_2) := (blk_cell BK129.out 2).trans rfl
      have hfz22_0 := blk_frozen BK129.out 0
      have hfz22_1 := blk_frozen BK129.out 1
      have hfz22_2 := blk_frozen BK129.out 2
      go_upto_if 34 with (first | ((with_reducible refine gate_callee (f := 99) rfl ?_); refine goesL_ (some 32) rfl rfl Try.func99 (by kernel_rfl) rfl #[.agg #[.int .u64 a2_0, .int .u64 a2_1, .bool a2_2], .int .i64 ji15] rfl (by (try simp only [List.map_toArray, List.map_cons, List.map_nil]); first | done | (simp only [hji15]; rfl) | rfl | (simp only [List.length_drop, List.length_take]; rfl)) ?_; (with_reducible refine (ratchetref04_wide_right.calls kj4 a2_0 a2_1 a2_2 ji15 t133 t134 t135 _ A16.out).mono ?_); rintro e w23 ⟨rfl, hb⟩; refine ⟨_, rfl, ?_⟩; have n0_ := Aside0.mk (blk_below (g := gb128) (o := .cells #[.int .i64 a0_0, .int .i64 a0_1] 56 (0, 0)) (by (with_reducible repeat (first | refine blk_drewN ?_ _ | refine blk_drew ?_ | refine blk_alloc ?_ _)); exact BK128.out) hb); have n1_ := Aside0.mk (blk_below (g := gb129) (o := .cells #[.int .u64 a2_0, .int .u64 a2_1, .bool a2_2] 97 (0, 0)) (by (with_reducible repeat (first | refine blk_drewN ?_ _ | refine blk_drew ?_ | refine blk_alloc ?_ _)); exact BK129.out) hb); have n2_ := Aside0.mk (below_step (by repeat (first | (with_reducible first | exact HB.out | apply below_alloc | apply pw_below_drewN | apply below_drew1 | refine below_set ?_ GE128.out | refine below_set ?_ GE129.out) | exact HB.out)) hb); clear BK128; clear BK129; clear HB; have BK128 := n0_; have BK129 := n1_; have HB := n2_; clear n0_ n1_ n2_; (try clear hb); (try clear hb2); (try clear hk); (try clear hi)) | ((with_reducible refine gate_dst (N := 11) rfl ?_); refine box_event ?hg (N := 11) ?hd (cs := #[.int .u64 0, .int .u64 0, .bool false]) (t := 97) ?hr ?_; (case hd => rfl); (case hg => rfl); (case hr => first | (go_simp; done) | (go_simp; rfl)); intro gb136 hg w24 hbox hb; have n0_ := Aside0.mk (blk_below (g := gb128) (o := .cells #[.int .i64 a0_0, .int .i64 a0_1] 56 (0, 0)) (by (with_reducible repeat (first | refine blk_drewN ?_ _ | refine blk_drew ?_ | refine blk_alloc ?_ _)); exact BK128.out) hb); have n1_ := Aside0.mk (blk_below (g := gb129) (o := .cells #[.int .u64 a2_0, .int .u64 a2_1, .bool a2_2] 97 (0, 0)) (by (with_reducible repeat (first | refine blk_drewN ?_ _ | refine blk_drew ?_ | refine blk_alloc ?_ _)); exact BK129.out) hb); have n2_ := Aside0.mk (below_step (by repeat (first | (with_reducible first | exact HB.out | apply below_alloc | apply pw_below_drewN | apply below_drew1 | refine below_set ?_ GE128.out | refine below_set ?_ GE129.out) | exact HB.out)) hb); have n3_ := Aside0.mk (hbox); have n4_ := Aside0.mk ((by rw [hg]; exact (below_size (by repeat (first | (with_reducible first | exact HB.out | apply below_alloc | apply pw_below_drewN | apply below_drew1 | refine below_set ?_ GE128.out | refine below_set ?_ GE129.out) | exact HB.out))) : w.heap.size ≤ gb136)); have n5_ := Aside0.mk ((by rw [hg]; exact (below_size (by repeat (first | (with_reducible first | exact HB.out | apply below_alloc | apply pw_below_drewN | apply below_drew1 | refine below_set ?_ GE128.out | refine below_set ?_ GE129.out) | exact HB.out))) : w.heap.size ≤ gb136)); have n6_ := Aside0.mk ((by rw [hg]; exact Nat.ne_of_lt (blk_lt (g := gb128) (o := .cells #[.int .i64 a0_0, .int .i64 a0_1] 56 (0, 0)) (by (with_reducible repeat (first | refine blk_drewN ?_ _ | refine blk_drew ?_ | refine blk_alloc ?_ _)); exact BK128.out)) : gb128 ≠ gb136)); have n7_ := Aside0.mk ((by rw [hg]; exact Nat.ne_of_gt (blk_lt (g := gb128) (o := .cells #[.int .i64 a0_0, .int .i64 a0_1] 56 (0, 0)) (by (with_reducible repeat (first | refine blk_drewN ?_ _ | refine blk_drew ?_ | refine blk_alloc ?_ _)); exact BK128.out)) : gb136 ≠ gb128)); have n8_ := Aside0.mk ((by rw [hg]; exact Nat.ne_of_lt (blk_lt (g := gb129) (o := .cells #[.int .u64 a2_0, .int .u64 a2_1, .bool a2_2] 97 (0, 0)) (by (with_reducible repeat (first | refine blk_drewN ?_ _ | refine blk_drew ?_ | refine blk_alloc ?_ _)); exact BK129.out)) : gb129 ≠ gb136)); have n9_ := Aside0.mk ((by rw [hg]; exact Nat.ne_of_gt (blk_lt (g := gb129) (o := .cells #[.int .u64 a2_0, .int .u64 a2_1, .bool a2_2] 97 (0, 0)) (by (with_reducible repeat (first | refine blk_drewN ?_ _ | refine blk_drew ?_ | refine blk_alloc ?_ _)); exact BK129.out)) : gb136 ≠ gb129)); clear BK128; clear BK129; clear HB; have BK128 := n0_; have BK129 := n1_; have HB := n2_; have BK136 := n3_; have GW136 := n4_; have GE136 := n5_; have NB128_136 := n6_; have NB136_128 := n7_; have NB129_136 := n8_; have NB136_129 := n9_; clear n0_ n1_ n2_ n3_ n4_ n5_ n6_ n7_ n8_ n9_; clear hb hbox hg; have hnb25 := NB136_128.out; have hnc25 := NB128_136.out; have hnb26 := NB136_129.out; have hnc26 := NB129_136.out; have hcz27_0 : w24.cell? ⟨gb136, 0, none⟩ = some (.int .u64 0) := (blk_cell BK136.out 0).trans rfl; have hcz27_1 : w24.cell? ⟨gb136, 1, none⟩ = some (.int .u64 0) := (blk_cell BK136.out 1).trans rfl; have hcz27_2 : w24.cell? ⟨gb136, 2, none⟩ = some (.bool false) := (blk_cell BK136.out 2).trans rfl; have hfz27_0 := blk_frozen BK136.out 0; have hfz27_1 := blk_frozen BK136.out 1; have hfz27_2 := blk_frozen BK136.out 2))
      (try simp only [Act.put, List.setIfInBounds_toArray, List.set_cons_zero, List.set_cons_succ])
      go_cut [] (fun wc => ∃ (kq : Nat) (x137000_16 : Int) (x137001_16 : Int) (x137002_16 : Bool), Aside0 (ratchetref04_Format_Round.j1 kq a3 x9_4 ji15 a0_0 a0_1 a2_0 a2_1 a2_2 x137000_16 x137001_16 x137002_16 = some r) ∧ Aside0 (kq ≤ kj4) ∧ Aside0 (wc.heap[gb128]? = some (.cells #[.int .i64 a0_0, .int .i64 a0_1] 56 (0, 0))) ∧ Aside0 (wc.heap[gb129]? = some (.cells #[.int .u64 a2_0, .int .u64 a2_1, .bool a2_2] 97 (0, 0))) ∧ Aside0 (wc.heap[gb136]? = some (.cells #[.int .u64 x137000_16, .int .u64 x137001_16, .bool x137002_16] 97 (0, 0))) ∧ Aside0 (Below w.heap.size w wc))
      case first =>
        have H := HC17.out
        clear HC17
        by_cases c28 : (ji15) ≤ 0
        · rw [if_pos c28] at H
          have c28b0 : decide ((ji15) ≤ 0) = true := decide_eq_true c28
          clear c28
          (first | rw [c28b0] | (simp only [i64_w, i32_w]; rw [c28b0]) | skip)
          replace H := Option.bind_eq_some_iff.mp H
          obtain ⟨⟨t137, t138, t139⟩, A290, H⟩ := H
          replace H : (ratchetref04_Format_Round.j1 kj4 a3 x9_4 ji15 a0_0 a0_1 a2_0 a2_1 a2_2 t137 t138 t139) = some r := H
          have A29 := Aside0.mk A290
          clear A290
          have H' := Aside0.mk H
          clear H
          have hnb30 := NB129_128.out
          have hnc30 := NB128_129.out
          have hnb31 := NB129_136.out
          have hnc31 := NB136_129.out
          have hcz32_0 : w24.cell? ⟨gb129, 0, none⟩ = some (.int .u64 a2_0) := (blk_cell BK129.out 0).trans rfl
          have hcz32_1 : w24.cell? ⟨gb129, 1, none⟩ = some (.int .u64 a2_1) := (blk_cell BK129.out 1).trans rfl
          have hcz32_2 : w24.cell? ⟨gb129, 2, none⟩ = some (.bool a2_2) := (blk_cell BK129.out 2).trans rfl
          have hfz32_0 := blk_frozen BK129.out 0
          have hfz32_1 := blk_frozen BK129.out 1
          have hfz32_2 := blk_frozen BK129.out 2
          go_wp2_with (first | ((with_reducible refine gate_callee (f := 98) rfl ?_); refine goesL_ (some 38) rfl rfl Try.func98 (by kernel_rfl) rfl #[.agg #[.int .u64 a2_0, .int .u64 a2_1, .bool a2_2], .int .i64 (wrap64 (-(ji15)))] rfl (by (try simp only [List.map_toArray, List.map_cons, List.map_nil]); first | done | (simp only [hji15]; rfl) | rfl | (simp only [List.length_drop, List.length_take]; rfl)) ?_; (with_reducible refine (ratchetref04_wide_left.calls kj4 a2_0 a2_1 a2_2 (wrap64 (-(ji15))) t137 t138 t139 _ A29.out).mono ?_); rintro e w33 ⟨rfl, hb⟩; refine ⟨_, rfl, ?_⟩; have n0_ := Aside0.mk (blk_below (g := gb128) (o := .cells #[.int .i64 a0_0, .int .i64 a0_1] 56 (0, 0)) (by (with_reducible repeat (first | refine blk_drewN ?_ _ | refine blk_drew ?_ | refine blk_alloc ?_ _)); refine blk_far ?_ NB128_136.out _; (with_reducible repeat (first | refine blk_drewN ?_ _ | refine blk_drew ?_ | refine blk_alloc ?_ _)); refine blk_far ?_ NB128_136.out _; (with_reducible repeat (first | refine blk_drewN ?_ _ | refine blk_drew ?_ | refine blk_alloc ?_ _)); refine blk_far ?_ NB128_136.out _; (with_reducible repeat (first | refine blk_drewN ?_ _ | refine blk_drew ?_ | refine blk_alloc ?_ _)); exact BK128.out) hb); have n1_ := Aside0.mk (blk_below (g := gb129) (o := .cells #[.int .u64 a2_0, .int .u64 a2_1, .bool a2_2] 97 (0, 0)) (by (with_reducible repeat (first | refine blk_drewN ?_ _ | refine blk_drew ?_ | refine blk_alloc ?_ _)); refine blk_far ?_ NB129_136.out _; (with_reducible repeat (first | refine blk_drewN ?_ _ | refine blk_drew ?_ | refine blk_alloc ?_ _)); refine blk_far ?_ NB129_136.out _; (with_reducible repeat (first | refine blk_drewN ?_ _ | refine blk_drew ?_ | refine blk_alloc ?_ _)); refine blk_far ?_ NB129_136.out _; (with_reducible repeat (first | refine blk_drewN ?_ _ | refine blk_drew ?_ | refine blk_alloc ?_ _)); exact BK129.out) hb); have n2_ := Aside0.mk (blk_below (g := gb136) (o := .cells #[.int .u64 t133, .int .u64 t134, .bool t135] 97 (0, 0)) (by (with_reducible repeat (first | refine blk_drewN ?_ _ | refine blk_drew ?_ | refine blk_alloc ?_ _)); refine blk_put (cs := #[.int .u64 t133, .int .u64 t134, .bool false]) ?_ 2 _ rfl; (with_reducible repeat (first | refine blk_drewN ?_ _ | refine blk_drew ?_ | refine blk_alloc ?_ _)); refine blk_put (cs := #[.int .u64 t133, .int .u64 0, .bool false]) ?_ 1 _ rfl; (with_reducible repeat (first | refine blk_drewN ?_ _ | refine blk_drew ?_ | refine blk_alloc ?_ _)); refine blk_put (cs := #[.int .u64 0, .int .u64 0, .bool false]) ?_ 0 _ rfl; (with_reducible repeat (first | refine blk_drewN ?_ _ | refine blk_drew ?_ | refine blk_alloc ?_ _)); exact BK136.out) hb); have n3_ := Aside0.mk (below_step (by repeat (first | (with_reducible first | exact HB.out | apply below_alloc | apply pw_below_drewN | apply below_drew1 | refine below_set ?_ GE128.out | refine below_set ?_ GE129.out | refine below_set ?_ GE136.out) | exact HB.out)) hb); clear BK128; clear BK129; clear BK136; clear HB; have BK128 := n0_; have BK129 := n1_; have BK136 := n2_; have HB := n3_; clear n0_ n1_ n2_ n3_; (try clear hb); (try clear hb2); (try clear hk); (try clear hi); have hnb34 := NB136_128.out; have hnc34 := NB128_136.out; have hcz35_0 : w33.cell? ⟨gb136, 0, none⟩ = some (.int .u64 t133) := (blk_cell BK136.out 0).trans rfl; have hcz35_1 : w33.cell? ⟨gb136, 1, none⟩ = some (.int .u64 t134) := (blk_cell BK136.out 1).trans rfl; have hcz35_2 : w33.cell? ⟨gb136, 2, none⟩ = some (.bool t135) := (blk_cell BK136.out 2).trans rfl; have hfz35_0 := blk_frozen BK136.out 0; have hfz35_1 := blk_frozen BK136.out 1; have hfz35_2 := blk_frozen BK136.out 2))
          go_meet
          case rel => exact ⟨_, (t137), (t138), (t139), H', ⟨by have := HJ4.out; first | omega | exact Nat.le_refl _⟩, ⟨by (with_reducible repeat (first | refine blk_drewN ?_ _ | refine blk_drew ?_ | refine blk_alloc ?_ _)); refine blk_far ?_ NB128_136.out _; (with_reducible repeat (first | refine blk_drewN ?_ _ | refine blk_drew ?_ | refine blk_alloc ?_ _)); refine blk_far ?_ NB128_136.out _; (with_reducible repeat (first | refine blk_drewN ?_ _ | refine blk_drew ?_ | refine blk_alloc ?_ _)); refine blk_far ?_ NB128_136.out _; (with_reducible repeat (first | refine blk_drewN ?_ _ | refine blk_drew ?_ | refine blk_alloc ?_ _)); exact BK128.out⟩, ⟨by (with_reducible repeat (first | refine blk_drewN ?_ _ | refine blk_drew ?_ | refine blk_alloc ?_ _)); refine blk_far ?_ NB129_136.out _; (with_reducible repeat (first | refine blk_drewN ?_ _ | refine blk_drew ?_ | refine blk_alloc ?_ _)); refine blk_far ?_ NB129_136.out _; (with_reducible repeat (first | refine blk_drewN ?_ _ | refine blk_drew ?_ | refine blk_alloc ?_ _)); refine blk_far ?_ NB129_136.out _; (with_reducible repeat (first | refine blk_drewN ?_ _ | refine blk_drew ?_ | refine blk_alloc ?_ _)); exact BK129.out⟩, ⟨by (with_reducible repeat (first | refine blk_drewN ?_ _ | refine blk_drew ?_ | refine blk_alloc ?_ _)); refine blk_put (cs := #[.int .u64 t137, .int .u64 t138, .bool t135]) ?_ 2 _ rfl; (with_reducible repeat (first | refine blk_drewN ?_ _ | refine blk_drew ?_ | refine blk_alloc ?_ _)); refine blk_put (cs := #[.int .u64 t137, .int .u64 t134, .bool t135]) ?_ 1 _ rfl; (with_reducible repeat (first | refine blk_drewN ?_ _ | refine blk_drew ?_ | refine blk_alloc ?_ _)); refine blk_put (cs := #[.int .u64 t133, .int .u64 t134, .bool t135]) ?_ 0 _ rfl; (with_reducible repeat (first | refine blk_drewN ?_ _ | refine blk_drew ?_ | refine blk_alloc ?_ _)); exact BK136.out⟩, ⟨by repeat (first | (with_reducible first | exact HB.out | apply below_alloc | apply pw_below_drewN | apply below_drew1 | refine below_set ?_ GE128.out | refine below_set ?_ GE129.out | refine below_set ?_ GE136.out) | exact HB.out)⟩⟩
        · rw [if_neg c28] at H
          have c28b0 : decide ((ji15) ≤ 0) = false := decide_eq_false c28
          clear c28
          (first | rw [c28b0] | (simp only [i64_w, i32_w]; rw [c28b0]) | skip)
          have H' := Aside0.mk H
          clear H
          go_wp2
          go_meet
          case rel => exact ⟨_, (t133), (t134), (t135), H', ⟨by have := HJ4.out; first | omega | exact Nat.le_refl _⟩, ⟨by (with_reducible repeat (first | refine blk_drewN ?_ _ | refine blk_drew ?_ | refine blk_alloc ?_ _)); refine blk_far ?_ NB128_136.out _; (with_reducible repeat (first | refine blk_drewN ?_ _ | refine blk_drew ?_ | refine blk_alloc ?_ _)); refine blk_far ?_ NB128_136.out _; (with_reducible repeat (first | refine blk_drewN ?_ _ | refine blk_drew ?_ | refine blk_alloc ?_ _)); refine blk_far ?_ NB128_136.out _; (with_reducible repeat (first | refine blk_drewN ?_ _ | refine blk_drew ?_ | refine blk_alloc ?_ _)); exact BK128.out⟩, ⟨by (with_reducible repeat (first | refine blk_drewN ?_ _ | refine blk_drew ?_ | refine blk_alloc ?_ _)); refine blk_far ?_ NB129_136.out _; (with_reducible repeat (first | refine blk_drewN ?_ _ | refine blk_drew ?_ | refine blk_alloc ?_ _)); refine blk_far ?_ NB129_136.out _; (with_reducible repeat (first | refine blk_drewN ?_ _ | refine blk_drew ?_ | refine blk_alloc ?_ _)); refine blk_far ?_ NB129_136.out _; (with_reducible repeat (first | refine blk_drewN ?_ _ | refine blk_drew ?_ | refine blk_alloc ?_ _)); exact BK129.out⟩, ⟨by (with_reducible repeat (first | refine blk_drewN ?_ _ | refine blk_drew ?_ | refine blk_alloc ?_ _)); refine blk_put (cs := #[.int .u64 t133, .int .u64 t134, .bool false]) ?_ 2 _ rfl; (with_reducible repeat (first | refine blk_drewN ?_ _ | refine blk_drew ?_ | refine blk_alloc ?_ _)); refine blk_put (cs := #[.int .u64 t133, .int .u64 0, .bool false]) ?_ 1 _ rfl; (with_reducible repeat (first | refine blk_drewN ?_ _ | refine blk_drew ?_ | refine blk_alloc ?_ _)); refine blk_put (cs := #[.int .u64 0, .int .u64 0, .bool false]) ?_ 0 _ rfl; (with_reducible repeat (first | refine blk_drewN ?_ _ | refine blk_drew ?_ | refine blk_alloc ?_ _)); exact BK136.out⟩, ⟨by repeat (first | (with_reducible first | exact HB.out | apply below_alloc | apply pw_below_drewN | apply below_drew1 | refine below_set ?_ GE128.out | refine below_set ?_ GE129.out | refine below_set ?_ GE136.out) | exact HB.out)⟩⟩
      case rest =>
        clear HC17
        try clear c1
        try clear c2
        try clear p2
        try clear c3
        try clear c6
        try clear p6
        try clear c8
        try clear c9
        try clear c10
        try clear c21
        try clear c25
        try clear c26
        try clear c28
        try clear c28b0
        try clear c30
        try clear c31
        try clear c34
        try clear hcz11_0
        try clear hcz11_1
        try clear hcz22_0
        try clear hcz22_1
        try clear hcz22_2
        try clear hcz27_0
        try clear hcz27_1
        try clear hcz27_2
        try clear hcz32_0
        try clear hcz32_1
        try clear hcz32_2
        try clear hcz35_0
        try clear hcz35_1
        try clear hcz35_2
        try clear hfz11_0
        try clear hfz11_1
        try clear hfz22_0
        try clear hfz22_1
        try clear hfz22_2
        try clear hfz27_0
        try clear hfz27_1
        try clear hfz27_2
        try clear hfz32_0
        try clear hfz32_1
        try clear hfz32_2
        try clear hfz35_0
        try clear hfz35_1
        try clear hfz35_2
        try clear p2
        obtain ⟨kq, x137000_16, x137001_16, x137002_16, HA, HJ16, BK128, BK129, BK136, HB⟩ := hcut
        cases kq with
        | zero => exact absurd HA.out (by simp [ratchetref04_Format_Round.j1])
        | succ kj16 =>
          have H := HA.out
          clear HA
          simp only [ratchetref04_Format_Round.j1] at H
          have HC36 := Aside0.mk H
          clear H
          go_upto_region 8 with (fail)
          go_cut [46] (fun v46 wc => ∃ (kq : Nat) (x46_35 : Bool), v46 = .bool x46_35 ∧ Aside0 (ratchetref04_Format_Round.j2 kq a3 x9_4 ji15 x46_35 a0_0 a0_1 a2_0 a2_1 a2_2 x137000_16 x137001_16 x137002_16 = some r) ∧ Aside0 (kq ≤ kj16) ∧ Aside0 (wc.heap[gb128]? = some (.cells #[.int .i64 a0_0, .int .i64 a0_1] 56 (0, 0))) ∧ Aside0 (wc.heap[gb129]? = some (.cells #[.int .u64 a2_0, .int .u64 a2_1, .bool a2_2] 97 (0, 0))) ∧ Aside0 (wc.heap[gb136]? = some (.cells #[.int .u64 x137000_16, .int .u64 x137001_16, .bool x137002_16] 97 (0, 0))) ∧ Aside0 (Below w.heap.size w wc))
          case first =>
            have H := HC36.out
            clear HC36
            by_cases c37 : a2_0 = 0
            · rw [if_pos c37] at H
              have c37b0 : (a2_0 == 0) = true := beq_iff_eq.mpr c37
              have c37b1 : (a2_0 != 0) = false := bne_eq_false_iff_eq.mpr c37
              clear c37
              (first | rw [c37b0] | (simp only [i64_w, i32_w]; rw [c37b0]) | skip)
              have H' := Aside0.mk H
              clear H
              have hnb38 := NB129_128.out
              have hnc38 := NB128_129.out
              have hnb39 := NB129_136.out
              have hnc39 := NB136_129.out
              have hcz40_0 : wc.cell? ⟨gb129, 0, none⟩ = some (.int .u64 a2_0) := (blk_cell BK129.out 0).trans rfl
              have hcz40_1 : wc.cell? ⟨gb129, 1, none⟩ = some (.int .u64 a2_1) := (blk_cell BK129.out 1).trans rfl
              have hcz40_2 : wc.cell? ⟨gb129, 2, none⟩ = some (.bool a2_2) := (blk_cell BK129.out 2).trans rfl
              have hfz40_0 := blk_frozen BK129.out 0
              have hfz40_1 := blk_frozen BK129.out 1
              have hfz40_2 := blk_frozen BK129.out 2
              go_wp2
              go_meet
              case rel => exact ⟨_, ((a2_1 == 0)), (by first | rfl | (simp; done) | (simp [*]; done)), H', ⟨by have := HJ4.out; have := HJ16.out; first | omega | exact Nat.le_refl _⟩, ⟨by (with_reducible repeat (first | refine blk_drewN ?_ _ | refine blk_drew ?_ | refine blk_alloc ?_ _)); exact BK128.out⟩, ⟨by (with_reducible repeat (first | refine blk_drewN ?_ _ | refine blk_drew ?_ | refine blk_alloc ?_ _)); exact BK129.out⟩, ⟨by (with_reducible repeat (first | refine blk_drewN ?_ _ | refine blk_drew ?_ | refine blk_alloc ?_ _)); exact BK136.out⟩, ⟨by repeat (first | (with_reducible first | exact HB.out | apply below_alloc | apply pw_below_drewN | apply below_drew1 | refine below_set ?_ GE128.out | refine below_set ?_ GE129.out | refine below_set ?_ GE136.out) | exact HB.out)⟩⟩
            · rw [if_neg c37] at H
              have c37b0 : (a2_0 == 0) = false := beq_eq_false_iff_ne.mpr c37
              have c37b1 : (a2_0 != 0) = true := bne_iff_ne.mpr c37
              (first | rw [c37b0] | (simp only [i64_w, i32_w]; rw [c37b0]) | skip)
              have H' := Aside0.mk H
              clear H
              have hnb41 := NB129_128.out
              have hnc41 := NB128_129.out
              have hnb42 := NB129_136.out
              have hnc42 := NB136_129.out
              have hcz43_0 : wc.cell? ⟨gb129, 0, none⟩ = some (.int .u64 a2_0) := (blk_cell BK129.out 0).trans rfl
              have hcz43_1 : wc.cell? ⟨gb129, 1, none⟩ = some (.int .u64 a2_1) := (blk_cell BK129.out 1).trans rfl
              have hcz43_2 : wc.cell? ⟨gb129, 2, none⟩ = some (.bool a2_2) := (blk_cell BK129.out 2).trans rfl
              have hfz43_0 := blk_frozen BK129.out 0
              have hfz43_1 := blk_frozen BK129.out 1
              have hfz43_2 := blk_frozen BK129.out 2
              go_wp2
              go_meet
              case rel => exact ⟨_, (false), (by first | rfl | (simp; done) | (simp [*]; done)), H', ⟨by have := HJ4.out; have := HJ16.out; first | omega | exact Nat.le_refl _⟩, ⟨by (with_reducible repeat (first | refine blk_drewN ?_ _ | refine blk_drew ?_ | refine blk_alloc ?_ _)); exact BK128.out⟩, ⟨by (with_reducible repeat (first | refine blk_drewN ?_ _ | refine blk_drew ?_ | refine blk_alloc ?_ _)); exact BK129.out⟩, ⟨by (with_reducible repeat (first | refine blk_drewN ?_ _ | refine blk_drew ?_ | refine blk_alloc ?_ _)); exact BK136.out⟩, ⟨by repeat (first | (with_reducible first | exact HB.out | apply below_alloc | apply pw_below_drewN | apply below_drew1 | refine below_set ?_ GE128.out | refine below_set ?_ GE129.out | refine below_set ?_ GE136.out) | exact HB.out)⟩⟩
          case rest =>
            clear HC36
            try clear c1
            try clear c2
            try clear p2
            try clear c3
            try clear c4
            try clear c6
            try clear p6
            try clear c8
            try clear c9
            try clear c10
            try clear c21
            try clear c25
            try clear c26
            try clear c28
            try clear c28b0
            try clear c30
            try clear c31
            try clear c34
            try clear c37
            try clear c37b0
            try clear c37b1
            try clear c38
            try clear c39
            try clear c41
            try clear c42
            try clear hcz11_0
            try clear hcz11_1
            try clear hcz22_0
            try clear hcz22_1
            try clear hcz22_2
            try clear hcz27_0
            try clear hcz27_1
            try clear hcz27_2
            try clear hcz32_0
            try clear hcz32_1
            try clear hcz32_2
            try clear hcz35_0
            try clear hcz35_1
            try clear hcz35_2
            try clear hcz40_0
            try clear hcz40_1
            try clear hcz40_2
            try clear hcz43_0
            try clear hcz43_1
            try clear hcz43_2
            try clear hfz11_0
            try clear hfz11_1
            try clear hfz22_0
            try clear hfz22_1
            try clear hfz22_2
            try clear hfz27_0
            try clear hfz27_1
            try clear hfz27_2
            try clear hfz32_0
            try clear hfz32_1
            try clear hfz32_2
            try clear hfz35_0
            try clear hfz35_1
            try clear hfz35_2
            try clear hfz40_0
            try clear hfz40_1
            try clear hfz40_2
            try clear hfz43_0
            try clear hfz43_1
            try clear hfz43_2
            try clear p2
            try clear p6
            obtain ⟨kq, x46_35, rfl, HA, HJ35, BK128, BK129, BK136, HB⟩ := hcut
            cases kq with
            | zero => exact absurd HA.out (by simp [ratchetref04_Format_Round.j2])
            | succ kj35 =>
              have H := HA.out
              clear HA
              simp only [ratchetref04_Format_Round.j2] at H
              by_cases c44 : x46_35 = true
              · subst c44
                have H1 : (some x9_4) = some r := by rw [if_pos rfl] at H; exact H
                clear H
                have H := H1
                clear H1
                obtain rfl := Option.some.inj H
                go_wp2
                go_ret
                exact ⟨by first | rfl | (simp [errW_none, errW_some] <;> rfl) | (simp only [← hji15]; first | rfl | (simp [errW_none, errW_some] <;> rfl)) | (simp [*, errW_none, errW_some] <;> rfl), by repeat (first | (with_reducible first | exact HB.out | apply below_alloc | apply pw_below_drewN | apply below_drew1 | refine below_set ?_ GE128.out | refine below_set ?_ GE129.out | refine below_set ?_ GE136.out) | exact HB.out)⟩
              · replace c44 := Bool.eq_false_iff.mpr c44
                subst c44
                have H1 : (if ji15 > 0 then ((ratchetref04_wide_right.f kj35 a2_0 a2_1 a2_2 (wrap64 (ji15 - 1))).bind fun bt140 => (if (Go.bits .and .u64 bt140.2.1 1) = 1 then (if bt140.2.2 = true then (ratchetref04_Format_Round.j3 kj35 (wrap64 (a3 + ji15)) x9_4 a0_0 a0_1 x137000_16 (IntKind.u64.wrap (x137001_16 + 1)) x137002_16) else (if (Go.bits .and .u64 x137001_16 1) = 1 then (ratchetref04_Format_Round.j3 kj35 (wrap64 (a3 + ji15)) x9_4 a0_0 a0_1 x137000_16 (IntKind.u64.wrap (x137001_16 + 1)) x137002_16) else (ratchetref04_Format_Round.j3 kj35 (wrap64 (a3 + ji15)) x9_4 a0_0 a0_1 x137000_16 x137001_16 x137002_16))) else (ratchetref04_Format_Round.j3 kj35 (wrap64 (a3 + ji15)) x9_4 a0_0 a0_1 x137000_16 x137001_16 x137002_16))) else (ratchetref04_Format_Round.j3 kj35 (wrap64 (a3 + ji15)) x9_4 a0_0 a0_1 x137000_16 x137001_16 x137002_16)) = some r := by rw [if_neg (show ¬ (false = true) by decide)] at H; exact H
                clear H
                have H := H1
                clear H1
                have HC45 := Aside0.mk H
                clear H
                go_upto_if 52 with (fail)
                go_cut [] (fun wc => ∃ (kq : Nat) (x137001_44 : Int), Aside0 (ratchetref04_Format_Round.j3 kq (wrap64 (a3 + ji15)) x9_4 a0_0 a0_1 x137000_16 x137001_44 x137002_16 = some r) ∧ Aside0 (kq ≤ kj35) ∧ Aside0 (wc.heap[gb128]? = some (.cells #[.int .i64 a0_0, .int .i64 a0_1] 56 (0, 0))) ∧ Aside0 (wc.heap[gb129]? = some (.cells #[.int .u64 a2_0, .int .u64 a2_1, .bool a2_2] 97 (0, 0))) ∧ Aside0 (wc.heap[gb136]? = some (.cells #[.int .u64 x137000_16, .int .u64 x137001_44, .bool x137002_16] 97 (0, 0))) ∧ Aside0 (Below w.heap.size w wc))
                case first =>
                  have H := HC45.out
                  clear HC45
                  by_cases c46 : ji15 > 0
                  · rw [if_pos c46] at H
                    have c46b0 : decide (0 < ji15) = true := decide_eq_true c46
                    clear c46
                    (first | rw [c46b0] | (simp only [i64_w, i32_w]; rw [c46b0]) | skip)
                    replace H := Option.bind_eq_some_iff.mp H
                    obtain ⟨⟨t140, t141, t142⟩, A470, H⟩ := H
                    replace H : (if (Go.bits .and .u64 t141 1) = 1 then (if t142 = true then (ratchetref04_Format_Round.j3 kj35 (wrap64 (a3 + ji15)) x9_4 a0_0 a0_1 x137000_16 (IntKind.u64.wrap (x137001_16 + 1)) x137002_16) else (if (Go.bits .and .u64 x137001_16 1) = 1 then (ratchetref04_Format_Round.j3 kj35 (wrap64 (a3 + ji15)) x9_4 a0_0 a0_1 x137000_16 (IntKind.u64.wrap (x137001_16 + 1)) x137002_16) else (ratchetref04_Format_Round.j3 kj35 (wrap64 (a3 + ji15)) x9_4 a0_0 a0_1 x137000_16 x137001_16 x137002_16))) else (ratchetref04_Format_Round.j3 kj35 (wrap64 (a3 + ji15)) x9_4 a0_0 a0_1 x137000_16 x137001_16 x137002_16)) = some r := H
                    have A47 := Aside0.mk A470
                    clear A470
                    by_cases c48 : (Go.bits .and .u64 t141 1) = 1
                    · rw [if_pos c48] at H
                      have c48b0 : ((Go.bits .and .u64 t141 1) == 1) = true := beq_iff_eq.mpr c48
                      have c48b1 : ((Go.bits .and .u64 t141 1) != 1) = false := bne_eq_false_iff_eq.mpr c48
                      clear c48
                      by_cases c49 : t142 = true
                      · subst c49
                        have H1 : (ratchetref04_Format_Round.j3 kj35 (wrap64 (a3 + ji15)) x9_4 a0_0 a0_1 x137000_16 (IntKind.u64.wrap (x137001_16 + 1)) x137002_16) = some r := by rw [if_pos rfl] at H; exact H
                        clear H
                        have H := H1
                        clear H1
                        have H' := Aside0.mk H
                        clear H
                        have hnb50 := NB129_128.out
                        have hnc50 := NB128_129.out
                        have hnb51 := NB129_136.out
                        have hnc51 := NB136_129.out
                        have hcz52_0 : wc.cell? ⟨gb129, 0, none⟩ = some (.int .u64 a2_0) := (blk_cell BK129.out 0).trans rfl
                        have hcz52_1 : wc.cell? ⟨gb129, 1, none⟩ = some (.int .u64 a2_1) := (blk_cell BK129.out 1).trans rfl
                        have hcz52_2 : wc.cell? ⟨gb129, 2, none⟩ = some (.bool a2_2) := (blk_cell BK129.out 2).trans rfl
                        have hfz52_0 := blk_frozen BK129.out 0
                        have hfz52_1 := blk_frozen BK129.out 1
                        have hfz52_2 := blk_frozen BK129.out 2
                        go_wp2_with (first | ((with_reducible refine gate_callee (f := 99) rfl ?_); refine goesL_ (some 56) rfl rfl Try.func99 (by kernel_rfl) rfl #[.agg #[.int .u64 a2_0, .int .u64 a2_1, .bool a2_2], .int .i64 (wrap64 (ji15 - 1))] rfl (by (try simp only [List.map_toArray, List.map_cons, List.map_nil]); first | done | (simp only [hji15]; rfl) | rfl | (simp only [List.length_drop, List.length_take]; rfl)) ?_; (with_reducible refine (ratchetref04_wide_right.calls kj35 a2_0 a2_1 a2_2 (wrap64 (ji15 - 1)) t140 t141 true _ A47.out).mono ?_); rintro e w53 ⟨rfl, hb⟩; refine ⟨_, rfl, ?_⟩; have n0_ := Aside0.mk (blk_below (g := gb128) (o := .cells #[.int .i64 a0_0, .int .i64 a0_1] 56 (0, 0)) (by (with_reducible repeat (first | refine blk_drewN ?_ _ | refine blk_drew ?_ | refine blk_alloc ?_ _)); exact BK128.out) hb); have n1_ := Aside0.mk (blk_below (g := gb129) (o := .cells #[.int .u64 a2_0, .int .u64 a2_1, .bool a2_2] 97 (0, 0)) (by (with_reducible repeat (first | refine blk_drewN ?_ _ | refine blk_drew ?_ | refine blk_alloc ?_ _)); exact BK129.out) hb); have n2_ := Aside0.mk (blk_below (g := gb136) (o := .cells #[.int .u64 x137000_16, .int .u64 x137001_16, .bool x137002_16] 97 (0, 0)) (by (with_reducible repeat (first | refine blk_drewN ?_ _ | refine blk_drew ?_ | refine blk_alloc ?_ _)); exact BK136.out) hb); have n3_ := Aside0.mk (below_step (by repeat (first | (with_reducible first | exact HB.out | apply below_alloc | apply pw_below_drewN | apply below_drew1 | refine below_set ?_ GE128.out | refine below_set ?_ GE129.out | refine below_set ?_ GE136.out) | exact HB.out)) hb); clear BK128; clear BK129; clear BK136; clear HB; have BK128 := n0_; have BK129 := n1_; have BK136 := n2_; have HB := n3_; clear n0_ n1_ n2_ n3_; (try clear hb); (try clear hb2); (try clear hk); (try clear hi)) | ((with_reducible refine gate_dst (N := 12) rfl ?_); refine box_event ?hg (N := 12) ?hd (cs := #[.int .u64 0, .int .u64 0, .bool false]) (t := 97) ?hr ?_; (case hd => rfl); (case hg => rfl); (case hr => first | (go_simp; done) | (go_simp; rfl)); intro gb143 hg w54 hbox hb; have n0_ := Aside0.mk (blk_below (g := gb128) (o := .cells #[.int .i64 a0_0, .int .i64 a0_1] 56 (0, 0)) (by (with_reducible repeat (first | refine blk_drewN ?_ _ | refine blk_drew ?_ | refine blk_alloc ?_ _)); exact BK128.out) hb); have n1_ := Aside0.mk (blk_below (g := gb129) (o := .cells #[.int .u64 a2_0, .int .u64 a2_1, .bool a2_2] 97 (0, 0)) (by (with_reducible repeat (first | refine blk_drewN ?_ _ | refine blk_drew ?_ | refine blk_alloc ?_ _)); exact BK129.out) hb); have n2_ := Aside0.mk (blk_below (g := gb136) (o := .cells #[.int .u64 x137000_16, .int .u64 x137001_16, .bool x137002_16] 97 (0, 0)) (by (with_reducible repeat (first | refine blk_drewN ?_ _ | refine blk_drew ?_ | refine blk_alloc ?_ _)); exact BK136.out) hb); have n3_ := Aside0.mk (below_step (by repeat (first | (with_reducible first | exact HB.out | apply below_alloc | apply pw_below_drewN | apply below_drew1 | refine below_set ?_ GE128.out | refine below_set ?_ GE129.out | refine below_set ?_ GE136.out) | exact HB.out)) hb); have n4_ := Aside0.mk (hbox); have n5_ := Aside0.mk ((by rw [hg]; exact (below_size (by repeat (first | (with_reducible first | exact HB.out | apply below_alloc | apply pw_below_drewN | apply below_drew1 | refine below_set ?_ GE128.out | refine below_set ?_ GE129.out | refine below_set ?_ GE136.out) | exact HB.out))) : w.heap.size ≤ gb143)); have n6_ := Aside0.mk ((by rw [hg]; exact (below_size (by repeat (first | (with_reducible first | exact HB.out | apply below_alloc | apply pw_below_drewN | apply below_drew1 | refine below_set ?_ GE128.out | refine below_set ?_ GE129.out | refine below_set ?_ GE136.out) | exact HB.out))) : w.heap.size ≤ gb143)); have n7_ := Aside0.mk ((by rw [hg]; exact Nat.ne_of_lt (blk_lt (g := gb128) (o := .cells #[.int .i64 a0_0, .int .i64 a0_1] 56 (0, 0)) (by (with_reducible repeat (first | refine blk_drewN ?_ _ | refine blk_drew ?_ | refine blk_alloc ?_ _)); exact BK128.out)) : gb128 ≠ gb143)); have n8_ := Aside0.mk ((by rw [hg]; exact Nat.ne_of_gt (blk_lt (g := gb128) (o := .cells #[.int .i64 a0_0, .int .i64 a0_1] 56 (0, 0)) (by (with_reducible repeat (first | refine blk_drewN ?_ _ | refine blk_drew ?_ | refine blk_alloc ?_ _)); exact BK128.out)) : gb143 ≠ gb128)); have n9_ := Aside0.mk ((by rw [hg]; exact Nat.ne_of_lt (blk_lt (g := gb129) (o := .cells #[.int .u64 a2_0, .int .u64 a2_1, .bool a2_2] 97 (0, 0)) (by (with_reducible repeat (first | refine blk_drewN ?_ _ | refine blk_drew ?_ | refine blk_alloc ?_ _)); exact BK129.out)) : gb129 ≠ gb143)); have n10_ := Aside0.mk ((by rw [hg]; exact Nat.ne_of_gt (blk_lt (g := gb129) (o := .cells #[.int .u64 a2_0, .int .u64 a2_1, .bool a2_2] 97 (0, 0)) (by (with_reducible repeat (first | refine blk_drewN ?_ _ | refine blk_drew ?_ | refine blk_alloc ?_ _)); exact BK129.out)) : gb143 ≠ gb129)); have n11_ := Aside0.mk ((by rw [hg]; exact Nat.ne_of_lt (blk_lt (g := gb136) (o := .cells #[.int .u64 x137000_16, .int .u64 x137001_16, .bool x137002_16] 97 (0, 0)) (by (with_reducible repeat (first | refine blk_drewN ?_ _ | refine blk_drew ?_ | refine blk_alloc ?_ _)); exact BK136.out)) : gb136 ≠ gb143)); have n12_ := Aside0.mk ((by rw [hg]; exact Nat.ne_of_gt (blk_lt (g := gb136) (o := .cells #[.int .u64 x137000_16, .int .u64 x137001_16, .bool x137002_16] 97 (0, 0)) (by (with_reducible repeat (first | refine blk_drewN ?_ _ | refine blk_drew ?_ | refine blk_alloc ?_ _)); exact BK136.out)) : gb143 ≠ gb136)); clear BK128; clear BK129; clear BK136; clear HB; have BK128 := n0_; have BK129 := n1_; have BK136 := n2_; have HB := n3_; have BK143 := n4_; have GW143 := n5_; have GE143 := n6_; have NB128_143 := n7_; have NB143_128 := n8_; have NB129_143 := n9_; have NB143_129 := n10_; have NB136_143 := n11_; have NB143_136 := n12_; clear n0_ n1_ n2_ n3_ n4_ n5_ n6_ n7_ n8_ n9_ n10_ n11_ n12_; clear hb hbox hg; have hnb55 := NB143_128.out; have hnc55 := NB128_143.out; have hnb56 := NB143_129.out; have hnc56 := NB129_143.out; have hnb57 := NB143_136.out; have hnc57 := NB136_143.out; have hcz58_0 : w54.cell? ⟨gb143, 0, none⟩ = some (.int .u64 0) := (blk_cell BK143.out 0).trans rfl; have hcz58_1 : w54.cell? ⟨gb143, 1, none⟩ = some (.int .u64 0) := (blk_cell BK143.out 1).trans rfl; have hcz58_2 : w54.cell? ⟨gb143, 2, none⟩ = some (.bool false) := (blk_cell BK143.out 2).trans rfl; have hfz58_0 := blk_frozen BK143.out 0; have hfz58_1 := blk_frozen BK143.out 1; have hfz58_2 := blk_frozen BK143.out 2; have hnb59 := NB136_128.out; have hnc59 := NB128_136.out; have hcz60_0 : w54.cell? ⟨gb136, 0, none⟩ = some (.int .u64 x137000_16) := (blk_cell BK136.out 0).trans rfl; have hcz60_1 : w54.cell? ⟨gb136, 1, none⟩ = some (.int .u64 x137001_16) := (blk_cell BK136.out 1).trans rfl; have hcz60_2 : w54.cell? ⟨gb136, 2, none⟩ = some (.bool x137002_16) := (blk_cell BK136.out 2).trans rfl; have hfz60_0 := blk_frozen BK136.out 0; have hfz60_1 := blk_frozen BK136.out 1; have hfz60_2 := blk_frozen BK136.out 2))
                        go_meet
                        case rel => exact ⟨_, (IntKind.u64.wrap (x137001_16 + 1)), H', ⟨by have := HJ4.out; have := HJ16.out; have := HJ35.out; first | omega | exact Nat.le_refl _⟩, ⟨by (with_reducible repeat (first | refine blk_drewN ?_ _ | refine blk_drew ?_ | refine blk_alloc ?_ _)); refine blk_far ?_ NB128_136.out _; (with_reducible repeat (first | refine blk_drewN ?_ _ | refine blk_drew ?_ | refine blk_alloc ?_ _)); refine blk_far ?_ NB128_143.out _; (with_reducible repeat (first | refine blk_drewN ?_ _ | refine blk_drew ?_ | refine blk_alloc ?_ _)); refine blk_far ?_ NB128_143.out _; (with_reducible repeat (first | refine blk_drewN ?_ _ | refine blk_drew ?_ | refine blk_alloc ?_ _)); refine blk_far ?_ NB128_143.out _; (with_reducible repeat (first | refine blk_drewN ?_ _ | refine blk_drew ?_ | refine blk_alloc ?_ _)); exact BK128.out⟩, ⟨by (with_reducible repeat (first | refine blk_drewN ?_ _ | refine blk_drew ?_ | refine blk_alloc ?_ _)); refine blk_far ?_ NB129_136.out _; (with_reducible repeat (first | refine blk_drewN ?_ _ | refine blk_drew ?_ | refine blk_alloc ?_ _)); refine blk_far ?_ NB129_143.out _; (with_reducible repeat (first | refine blk_drewN ?_ _ | refine blk_drew ?_ | refine blk_alloc ?_ _)); refine blk_far ?_ NB129_143.out _; (with_reducible repeat (first | refine blk_drewN ?_ _ | refine blk_drew ?_ | refine blk_alloc ?_ _)); refine blk_far ?_ NB129_143.out _; (with_reducible repeat (first | refine blk_drewN ?_ _ | refine blk_drew ?_ | refine blk_alloc ?_ _)); exact BK129.out⟩, ⟨by (with_reducible repeat (first | refine blk_drewN ?_ _ | refine blk_drew ?_ | refine blk_alloc ?_ _)); refine blk_put (cs := #[.int .u64 x137000_16, .int .u64 x137001_16, .bool x137002_16]) ?_ 1 _ rfl; (with_reducible repeat (first | refine blk_drewN ?_ _ | refine blk_drew ?_ | refine blk_alloc ?_ _)); refine blk_far ?_ NB136_143.out _; (with_reducible repeat (first | refine blk_drewN ?_ _ | refine blk_drew ?_ | refine blk_alloc ?_ _)); refine blk_far ?_ NB136_143.out _; (with_reducible repeat (first | refine blk_drewN ?_ _ | refine blk_drew ?_ | refine blk_alloc ?_ _)); refine blk_far ?_ NB136_143.out _; (with_reducible repeat (first | refine blk_drewN ?_ _ | refine blk_drew ?_ | refine blk_alloc ?_ _)); exact BK136.out⟩, ⟨by repeat (first | (with_reducible first | exact HB.out | apply below_alloc | apply pw_below_drewN | apply below_drew1 | refine below_set ?_ GE128.out | refine below_set ?_ GE129.out | refine below_set ?_ GE136.out | refine below_set ?_ GE143.out) | exact HB.out)⟩⟩
                      · replace c49 := Bool.eq_false_iff.mpr c49
                        subst c49
                        have H1 : (if (Go.bits .and .u64 x137001_16 1) = 1 then (ratchetref04_Format_Round.j3 kj35 (wrap64 (a3 + ji15)) x9_4 a0_0 a0_1 x137000_16 (IntKind.u64.wrap (x137001_16 + 1)) x137002_16) else (ratchetref04_Format_Round.j3 kj35 (wrap64 (a3 + ji15)) x9_4 a0_0 a0_1 x137000_16 x137001_16 x137002_16)) = some r := by rw [if_neg (show ¬ (false = true) by decide)] at H; exact H
                        clear H
                        have H := H1
                        clear H1
                        by_cases c61 : (Go.bits .and .u64 x137001_16 1) = 1
                        · rw [if_pos c61] at H
                          have c61b0 : ((Go.bits .and .u64 x137001_16 1) == 1) = true := beq_iff_eq.mpr c61
                          have c61b1 : ((Go.bits .and .u64 x137001_16 1) != 1) = false := bne_eq_false_iff_eq.mpr c61
                          clear c61
                          have H' := Aside0.mk H
                          clear H
                          have hnb62 := NB129_128.out
                          have hnc62 := NB128_129.out
                          have hnb63 := NB129_136.out
                          have hnc63 := NB136_129.out
                          have hcz64_0 : wc.cell? ⟨gb129, 0, none⟩ = some (.int .u64 a2_0) := (blk_cell BK129.out 0).trans rfl
                          have hcz64_1 : wc.cell? ⟨gb129, 1, none⟩ = some (.int .u64 a2_1) := (blk_cell BK129.out 1).trans rfl
                          have hcz64_2 : wc.cell? ⟨gb129, 2, none⟩ = some (.bool a2_2) := (blk_cell BK129.out 2).trans rfl
                          have hfz64_0 := blk_frozen BK129.out 0
                          have hfz64_1 := blk_frozen BK129.out 1
                          have hfz64_2 := blk_frozen BK129.out 2
                          go_wp2_with (first | ((with_reducible refine gate_callee (f := 99) rfl ?_); refine goesL_ (some 56) rfl rfl Try.func99 (by kernel_rfl) rfl #[.agg #[.int .u64 a2_0, .int .u64 a2_1, .bool a2_2], .int .i64 (wrap64 (ji15 - 1))] rfl (by (try simp only [List.map_toArray, List.map_cons, List.map_nil]); first | done | (simp only [hji15]; rfl) | rfl | (simp only [List.length_drop, List.length_take]; rfl)) ?_; (with_reducible refine (ratchetref04_wide_right.calls kj35 a2_0 a2_1 a2_2 (wrap64 (ji15 - 1)) t140 t141 false _ A47.out).mono ?_); rintro e w65 ⟨rfl, hb⟩; refine ⟨_, rfl, ?_⟩; have n0_ := Aside0.mk (blk_below (g := gb128) (o := .cells #[.int .i64 a0_0, .int .i64 a0_1] 56 (0, 0)) (by (with_reducible repeat (first | refine blk_drewN ?_ _ | refine blk_drew ?_ | refine blk_alloc ?_ _)); exact BK128.out) hb); have n1_ := Aside0.mk (blk_below (g := gb129) (o := .cells #[.int .u64 a2_0, .int .u64 a2_1, .bool a2_2] 97 (0, 0)) (by (with_reducible repeat (first | refine blk_drewN ?_ _ | refine blk_drew ?_ | refine blk_alloc ?_ _)); exact BK129.out) hb); have n2_ := Aside0.mk (blk_below (g := gb136) (o := .cells #[.int .u64 x137000_16, .int .u64 x137001_16, .bool x137002_16] 97 (0, 0)) (by (with_reducible repeat (first | refine blk_drewN ?_ _ | refine blk_drew ?_ | refine blk_alloc ?_ _)); exact BK136.out) hb); have n3_ := Aside0.mk (below_step (by repeat (first | (with_reducible first | exact HB.out | apply below_alloc | apply pw_below_drewN | apply below_drew1 | refine below_set ?_ GE128.out | refine below_set ?_ GE129.out | refine below_set ?_ GE136.out) | exact HB.out)) hb); clear BK128; clear BK129; clear BK136; clear HB; have BK128 := n0_; have BK129 := n1_; have BK136 := n2_; have HB := n3_; clear n0_ n1_ n2_ n3_; (try clear hb); (try clear hb2); (try clear hk); (try clear hi)) | ((with_reducible refine gate_dst (N := 12) rfl ?_); refine box_event ?hg (N := 12) ?hd (cs := #[.int .u64 0, .int .u64 0, .bool false]) (t := 97) ?hr ?_; (case hd => rfl); (case hg => rfl); (case hr => first | (go_simp; done) | (go_simp; rfl)); intro gb143 hg w66 hbox hb; have n0_ := Aside0.mk (blk_below (g := gb128) (o := .cells #[.int .i64 a0_0, .int .i64 a0_1] 56 (0, 0)) (by (with_reducible repeat (first | refine blk_drewN ?_ _ | refine blk_drew ?_ | refine blk_alloc ?_ _)); exact BK128.out) hb); have n1_ := Aside0.mk (blk_below (g := gb129) (o := .cells #[.int .u64 a2_0, .int .u64 a2_1, .bool a2_2] 97 (0, 0)) (by (with_reducible repeat (first | refine blk_drewN ?_ _ | refine blk_drew ?_ | refine blk_alloc ?_ _)); exact BK129.out) hb); have n2_ := Aside0.mk (blk_below (g := gb136) (o := .cells #[.int .u64 x137000_16, .int .u64 x137001_16, .bool x137002_16] 97 (0, 0)) (by (with_reducible repeat (first | refine blk_drewN ?_ _ | refine blk_drew ?_ | refine blk_alloc ?_ _)); exact BK136.out) hb); have n3_ := Aside0.mk (below_step (by repeat (first | (with_reducible first | exact HB.out | apply below_alloc | apply pw_below_drewN | apply below_drew1 | refine below_set ?_ GE128.out | refine below_set ?_ GE129.out | refine below_set ?_ GE136.out) | exact HB.out)) hb); have n4_ := Aside0.mk (hbox); have n5_ := Aside0.mk ((by rw [hg]; exact (below_size (by repeat (first | (with_reducible first | exact HB.out | apply below_alloc | apply pw_below_drewN | apply below_drew1 | refine below_set ?_ GE128.out | refine below_set ?_ GE129.out | refine below_set ?_ GE136.out) | exact HB.out))) : w.heap.size ≤ gb143)); have n6_ := Aside0.mk ((by rw [hg]; exact (below_size (by repeat (first | (with_reducible first | exact HB.out | apply below_alloc | apply pw_below_drewN | apply below_drew1 | refine below_set ?_ GE128.out | refine below_set ?_ GE129.out | refine below_set ?_ GE136.out) | exact HB.out))) : w.heap.size ≤ gb143)); have n7_ := Aside0.mk ((by rw [hg]; exact Nat.ne_of_lt (blk_lt (g := gb128) (o := .cells #[.int .i64 a0_0, .int .i64 a0_1] 56 (0, 0)) (by (with_reducible repeat (first | refine blk_drewN ?_ _ | refine blk_drew ?_ | refine blk_alloc ?_ _)); exact BK128.out)) : gb128 ≠ gb143)); have n8_ := Aside0.mk ((by rw [hg]; exact Nat.ne_of_gt (blk_lt (g := gb128) (o := .cells #[.int .i64 a0_0, .int .i64 a0_1] 56 (0, 0)) (by (with_reducible repeat (first | refine blk_drewN ?_ _ | refine blk_drew ?_ | refine blk_alloc ?_ _)); exact BK128.out)) : gb143 ≠ gb128)); have n9_ := Aside0.mk ((by rw [hg]; exact Nat.ne_of_lt (blk_lt (g := gb129) (o := .cells #[.int .u64 a2_0, .int .u64 a2_1, .bool a2_2] 97 (0, 0)) (by (with_reducible repeat (first | refine blk_drewN ?_ _ | refine blk_drew ?_ | refine blk_alloc ?_ _)); exact BK129.out)) : gb129 ≠ gb143)); have n10_ := Aside0.mk ((by rw [hg]; exact Nat.ne_of_gt (blk_lt (g := gb129) (o := .cells #[.int .u64 a2_0, .int .u64 a2_1, .bool a2_2] 97 (0, 0)) (by (with_reducible repeat (first | refine blk_drewN ?_ _ | refine blk_drew ?_ | refine blk_alloc ?_ _)); exact BK129.out)) : gb143 ≠ gb129)); have n11_ := Aside0.mk ((by rw [hg]; exact Nat.ne_of_lt (blk_lt (g := gb136) (o := .cells #[.int .u64 x137000_16, .int .u64 x137001_16, .bool x137002_16] 97 (0, 0)) (by (with_reducible repeat (first | refine blk_drewN ?_ _ | refine blk_drew ?_ | refine blk_alloc ?_ _)); exact BK136.out)) : gb136 ≠ gb143)); have n12_ := Aside0.mk ((by rw [hg]; exact Nat.ne_of_gt (blk_lt (g := gb136) (o := .cells #[.int .u64 x137000_16, .int .u64 x137001_16, .bool x137002_16] 97 (0, 0)) (by (with_reducible repeat (first | refine blk_drewN ?_ _ | refine blk_drew ?_ | refine blk_alloc ?_ _)); exact BK136.out)) : gb143 ≠ gb136)); clear BK128; clear BK129; clear BK136; clear HB; have BK128 := n0_; have BK129 := n1_; have BK136 := n2_; have HB := n3_; have BK143 := n4_; have GW143 := n5_; have GE143 := n6_; have NB128_143 := n7_; have NB143_128 := n8_; have NB129_143 := n9_; have NB143_129 := n10_; have NB136_143 := n11_; have NB143_136 := n12_; clear n0_ n1_ n2_ n3_ n4_ n5_ n6_ n7_ n8_ n9_ n10_ n11_ n12_; clear hb hbox hg; have hnb67 := NB143_128.out; have hnc67 := NB128_143.out; have hnb68 := NB143_129.out; have hnc68 := NB129_143.out; have hnb69 := NB143_136.out; have hnc69 := NB136_143.out; have hcz70_0 : w66.cell? ⟨gb143, 0, none⟩ = some (.int .u64 0) := (blk_cell BK143.out 0).trans rfl; have hcz70_1 : w66.cell? ⟨gb143, 1, none⟩ = some (.int .u64 0) := (blk_cell BK143.out 1).trans rfl; have hcz70_2 : w66.cell? ⟨gb143, 2, none⟩ = some (.bool false) := (blk_cell BK143.out 2).trans rfl; have hfz70_0 := blk_frozen BK143.out 0; have hfz70_1 := blk_frozen BK143.out 1; have hfz70_2 := blk_frozen BK143.out 2; have hnb71 := NB136_128.out; have hnc71 := NB128_136.out; have hcz72_0 : w66.cell? ⟨gb136, 0, none⟩ = some (.int .u64 x137000_16) := (blk_cell BK136.out 0).trans rfl; have hcz72_1 : w66.cell? ⟨gb136, 1, none⟩ = some (.int .u64 x137001_16) := (blk_cell BK136.out 1).trans rfl; have hcz72_2 : w66.cell? ⟨gb136, 2, none⟩ = some (.bool x137002_16) := (blk_cell BK136.out 2).trans rfl; have hfz72_0 := blk_frozen BK136.out 0; have hfz72_1 := blk_frozen BK136.out 1; have hfz72_2 := blk_frozen BK136.out 2))
                          go_meet
                          case rel => exact ⟨_, (IntKind.u64.wrap (x137001_16 + 1)), H', ⟨by have := HJ4.out; have := HJ16.out; have := HJ35.out; first | omega | exact Nat.le_refl _⟩, ⟨by (with_reducible repeat (first | refine blk_drewN ?_ _ | refine blk_drew ?_ | refine blk_alloc ?_ _)); refine blk_far ?_ NB128_136.out _; (with_reducible repeat (first | refine blk_drewN ?_ _ | refine blk_drew ?_ | refine blk_alloc ?_ _)); refine blk_far ?_ NB128_143.out _; (with_reducible repeat (first | refine blk_drewN ?_ _ | refine blk_drew ?_ | refine blk_alloc ?_ _)); refine blk_far ?_ NB128_143.out _; (with_reducible repeat (first | refine blk_drewN ?_ _ | refine blk_drew ?_ | refine blk_alloc ?_ _)); refine blk_far ?_ NB128_143.out _; (with_reducible repeat (first | refine blk_drewN ?_ _ | refine blk_drew ?_ | refine blk_alloc ?_ _)); exact BK128.out⟩, ⟨by (with_reducible repeat (first | refine blk_drewN ?_ _ | refine blk_drew ?_ | refine blk_alloc ?_ _)); refine blk_far ?_ NB129_136.out _; (with_reducible repeat (first | refine blk_drewN ?_ _ | refine blk_drew ?_ | refine blk_alloc ?_ _)); refine blk_far ?_ NB129_143.out _; (with_reducible repeat (first | refine blk_drewN ?_ _ | refine blk_drew ?_ | refine blk_alloc ?_ _)); refine blk_far ?_ NB129_143.out _; (with_reducible repeat (first | refine blk_drewN ?_ _ | refine blk_drew ?_ | refine blk_alloc ?_ _)); refine blk_far ?_ NB129_143.out _; (with_reducible repeat (first | refine blk_drewN ?_ _ | refine blk_drew ?_ | refine blk_alloc ?_ _)); exact BK129.out⟩, ⟨by (with_reducible repeat (first | refine blk_drewN ?_ _ | refine blk_drew ?_ | refine blk_alloc ?_ _)); refine blk_put (cs := #[.int .u64 x137000_16, .int .u64 x137001_16, .bool x137002_16]) ?_ 1 _ rfl; (with_reducible repeat (first | refine blk_drewN ?_ _ | refine blk_drew ?_ | refine blk_alloc ?_ _)); refine blk_far ?_ NB136_143.out _; (with_reducible repeat (first | refine blk_drewN ?_ _ | refine blk_drew ?_ | refine blk_alloc ?_ _)); refine blk_far ?_ NB136_143.out _; (with_reducible repeat (first | refine blk_drewN ?_ _ | refine blk_drew ?_ | refine blk_alloc ?_ _)); refine blk_far ?_ NB136_143.out _; (with_reducible repeat (first | refine blk_drewN ?_ _ | refine blk_drew ?_ | refine blk_alloc ?_ _)); exact BK136.out⟩, ⟨by repeat (first | (with_reducible first | exact HB.out | apply below_alloc | apply pw_below_drewN | apply below_drew1 | refine below_set ?_ GE128.out | refine below_set ?_ GE129.out | refine below_set ?_ GE136.out | refine below_set ?_ GE143.out) | exact HB.out)⟩⟩
                        · rw [if_neg c61] at H
                          have c61b0 : ((Go.bits .and .u64 x137001_16 1) == 1) = false := beq_eq_false_iff_ne.mpr c61
                          have c61b1 : ((Go.bits .and .u64 x137001_16 1) != 1) = true := bne_iff_ne.mpr c61
                          have H' := Aside0.mk H
                          clear H
                          have hnb73 := NB129_128.out
                          have hnc73 := NB128_129.out
                          have hnb74 := NB129_136.out
                          have hnc74 := NB136_129.out
                          have hcz75_0 : wc.cell? ⟨gb129, 0, none⟩ = some (.int .u64 a2_0) := (blk_cell BK129.out 0).trans rfl
                          have hcz75_1 : wc.cell? ⟨gb129, 1, none⟩ = some (.int .u64 a2_1) := (blk_cell BK129.out 1).trans rfl
                          have hcz75_2 : wc.cell? ⟨gb129, 2, none⟩ = some (.bool a2_2) := (blk_cell BK129.out 2).trans rfl
                          have hfz75_0 := blk_frozen BK129.out 0
                          have hfz75_1 := blk_frozen BK129.out 1
                          have hfz75_2 := blk_frozen BK129.out 2
                          go_wp2_with (first | ((with_reducible refine gate_callee (f := 99) rfl ?_); refine goesL_ (some 56) rfl rfl Try.func99 (by kernel_rfl) rfl #[.agg #[.int .u64 a2_0, .int .u64 a2_1, .bool a2_2], .int .i64 (wrap64 (ji15 - 1))] rfl (by (try simp only [List.map_toArray, List.map_cons, List.map_nil]); first | done | (simp only [hji15]; rfl) | rfl | (simp only [List.length_drop, List.length_take]; rfl)) ?_; (with_reducible refine (ratchetref04_wide_right.calls kj35 a2_0 a2_1 a2_2 (wrap64 (ji15 - 1)) t140 t141 false _ A47.out).mono ?_); rintro e w76 ⟨rfl, hb⟩; refine ⟨_, rfl, ?_⟩; have n0_ := Aside0.mk (blk_below (g := gb128) (o := .cells #[.int .i64 a0_0, .int .i64 a0_1] 56 (0, 0)) (by (with_reducible repeat (first | refine blk_drewN ?_ _ | refine blk_drew ?_ | refine blk_alloc ?_ _)); exact BK128.out) hb); have n1_ := Aside0.mk (blk_below (g := gb129) (o := .cells #[.int .u64 a2_0, .int .u64 a2_1, .bool a2_2] 97 (0, 0)) (by (with_reducible repeat (first | refine blk_drewN ?_ _ | refine blk_drew ?_ | refine blk_alloc ?_ _)); exact BK129.out) hb); have n2_ := Aside0.mk (blk_below (g := gb136) (o := .cells #[.int .u64 x137000_16, .int .u64 x137001_16, .bool x137002_16] 97 (0, 0)) (by (with_reducible repeat (first | refine blk_drewN ?_ _ | refine blk_drew ?_ | refine blk_alloc ?_ _)); exact BK136.out) hb); have n3_ := Aside0.mk (below_step (by repeat (first | (with_reducible first | exact HB.out | apply below_alloc | apply pw_below_drewN | apply below_drew1 | refine below_set ?_ GE128.out | refine below_set ?_ GE129.out | refine below_set ?_ GE136.out) | exact HB.out)) hb); clear BK128; clear BK129; clear BK136; clear HB; have BK128 := n0_; have BK129 := n1_; have BK136 := n2_; have HB := n3_; clear n0_ n1_ n2_ n3_; (try clear hb); (try clear hb2); (try clear hk); (try clear hi)) | ((with_reducible refine gate_dst (N := 12) rfl ?_); refine box_event ?hg (N := 12) ?hd (cs := #[.int .u64 0, .int .u64 0, .bool false]) (t := 97) ?hr ?_; (case hd => rfl); (case hg => rfl); (case hr => first | (go_simp; done) | (go_simp; rfl)); intro gb143 hg w77 hbox hb; have n0_ := Aside0.mk (blk_below (g := gb128) (o := .cells #[.int .i64 a0_0, .int .i64 a0_1] 56 (0, 0)) (by (with_reducible repeat (first | refine blk_drewN ?_ _ | refine blk_drew ?_ | refine blk_alloc ?_ _)); exact BK128.out) hb); have n1_ := Aside0.mk (blk_below (g := gb129) (o := .cells #[.int .u64 a2_0, .int .u64 a2_1, .bool a2_2] 97 (0, 0)) (by (with_reducible repeat (first | refine blk_drewN ?_ _ | refine blk_drew ?_ | refine blk_alloc ?_ _)); exact BK129.out) hb); have n2_ := Aside0.mk (blk_below (g := gb136) (o := .cells #[.int .u64 x137000_16, .int .u64 x137001_16, .bool x137002_16] 97 (0, 0)) (by (with_reducible repeat (first | refine blk_drewN ?_ _ | refine blk_drew ?_ | refine blk_alloc ?_ _)); exact BK136.out) hb); have n3_ := Aside0.mk (below_step (by repeat (first | (with_reducible first | exact HB.out | apply below_alloc | apply pw_below_drewN | apply below_drew1 | refine below_set ?_ GE128.out | refine below_set ?_ GE129.out | refine below_set ?_ GE136.out) | exact HB.out)) hb); have n4_ := Aside0.mk (hbox); have n5_ := Aside0.mk ((by rw [hg]; exact (below_size (by repeat (first | (with_reducible first | exact HB.out | apply below_alloc | apply pw_below_drewN | apply below_drew1 | refine below_set ?_ GE128.out | refine below_set ?_ GE129.out | refine below_set ?_ GE136.out) | exact HB.out))) : w.heap.size ≤ gb143)); have n6_ := Aside0.mk ((by rw [hg]; exact (below_size (by repeat (first | (with_reducible first | exact HB.out | apply below_alloc | apply pw_below_drewN | apply below_drew1 | refine below_set ?_ GE128.out | refine below_set ?_ GE129.out | refine below_set ?_ GE136.out) | exact HB.out))) : w.heap.size ≤ gb143)); have n7_ := Aside0.mk ((by rw [hg]; exact Nat.ne_of_lt (blk_lt (g := gb128) (o := .cells #[.int .i64 a0_0, .int .i64 a0_1] 56 (0, 0)) (by (with_reducible repeat (first | refine blk_drewN ?_ _ | refine blk_drew ?_ | refine blk_alloc ?_ _)); exact BK128.out)) : gb128 ≠ gb143)); have n8_ := Aside0.mk ((by rw [hg]; exact Nat.ne_of_gt (blk_lt (g := gb128) (o := .cells #[.int .i64 a0_0, .int .i64 a0_1] 56 (0, 0)) (by (with_reducible repeat (first | refine blk_drewN ?_ _ | refine blk_drew ?_ | refine blk_alloc ?_ _)); exact BK128.out)) : gb143 ≠ gb128)); have n9_ := Aside0.mk ((by rw [hg]; exact Nat.ne_of_lt (blk_lt (g := gb129) (o := .cells #[.int .u64 a2_0, .int .u64 a2_1, .bool a2_2] 97 (0, 0)) (by (with_reducible repeat (first | refine blk_drewN ?_ _ | refine blk_drew ?_ | refine blk_alloc ?_ _)); exact BK129.out)) : gb129 ≠ gb143)); have n10_ := Aside0.mk ((by rw [hg]; exact Nat.ne_of_gt (blk_lt (g := gb129) (o := .cells #[.int .u64 a2_0, .int .u64 a2_1, .bool a2_2] 97 (0, 0)) (by (with_reducible repeat (first | refine blk_drewN ?_ _ | refine blk_drew ?_ | refine blk_alloc ?_ _)); exact BK129.out)) : gb143 ≠ gb129)); have n11_ := Aside0.mk ((by rw [hg]; exact Nat.ne_of_lt (blk_lt (g := gb136) (o := .cells #[.int .u64 x137000_16, .int .u64 x137001_16, .bool x137002_16] 97 (0, 0)) (by (with_reducible repeat (first | refine blk_drewN ?_ _ | refine blk_drew ?_ | refine blk_alloc ?_ _)); exact BK136.out)) : gb136 ≠ gb143)); have n12_ := Aside0.mk ((by rw [hg]; exact Nat.ne_of_gt (blk_lt (g := gb136) (o := .cells #[.int .u64 x137000_16, .int .u64 x137001_16, .bool x137002_16] 97 (0, 0)) (by (with_reducible repeat (first | refine blk_drewN ?_ _ | refine blk_drew ?_ | refine blk_alloc ?_ _)); exact BK136.out)) : gb143 ≠ gb136)); clear BK128; clear BK129; clear BK136; clear HB; have BK128 := n0_; have BK129 := n1_; have BK136 := n2_; have HB := n3_; have BK143 := n4_; have GW143 := n5_; have GE143 := n6_; have NB128_143 := n7_; have NB143_128 := n8_; have NB129_143 := n9_; have NB143_129 := n10_; have NB136_143 := n11_; have NB143_136 := n12_; clear n0_ n1_ n2_ n3_ n4_ n5_ n6_ n7_ n8_ n9_ n10_ n11_ n12_; clear hb hbox hg; have hnb78 := NB143_128.out; have hnc78 := NB128_143.out; have hnb79 := NB143_129.out; have hnc79 := NB129_143.out; have hnb80 := NB143_136.out; have hnc80 := NB136_143.out; have hcz81_0 : w77.cell? ⟨gb143, 0, none⟩ = some (.int .u64 0) := (blk_cell BK143.out 0).trans rfl; have hcz81_1 : w77.cell? ⟨gb143, 1, none⟩ = some (.int .u64 0) := (blk_cell BK143.out 1).trans rfl; have hcz81_2 : w77.cell? ⟨gb143, 2, none⟩ = some (.bool false) := (blk_cell BK143.out 2).trans rfl; have hfz81_0 := blk_frozen BK143.out 0; have hfz81_1 := blk_frozen BK143.out 1; have hfz81_2 := blk_frozen BK143.out 2; have hnb82 := NB136_128.out; have hnc82 := NB128_136.out; have hcz83_0 : w77.cell? ⟨gb136, 0, none⟩ = some (.int .u64 x137000_16) := (blk_cell BK136.out 0).trans rfl; have hcz83_1 : w77.cell? ⟨gb136, 1, none⟩ = some (.int .u64 x137001_16) := (blk_cell BK136.out 1).trans rfl; have hcz83_2 : w77.cell? ⟨gb136, 2, none⟩ = some (.bool x137002_16) := (blk_cell BK136.out 2).trans rfl; have hfz83_0 := blk_frozen BK136.out 0; have hfz83_1 := blk_frozen BK136.out 1; have hfz83_2 := blk_frozen BK136.out 2))
                          go_meet
                          case rel => exact ⟨_, (x137001_16), H', ⟨by have := HJ4.out; have := HJ16.out; have := HJ35.out; first | omega | exact Nat.le_refl _⟩, ⟨by (with_reducible repeat (first | refine blk_drewN ?_ _ | refine blk_drew ?_ | refine blk_alloc ?_ _)); refine blk_far ?_ NB128_143.out _; (with_reducible repeat (first | refine blk_drewN ?_ _ | refine blk_drew ?_ | refine blk_alloc ?_ _)); refine blk_far ?_ NB128_143.out _; (with_reducible repeat (first | refine blk_drewN ?_ _ | refine blk_drew ?_ | refine blk_alloc ?_ _)); refine blk_far ?_ NB128_143.out _; (with_reducible repeat (first | refine blk_drewN ?_ _ | refine blk_drew ?_ | refine blk_alloc ?_ _)); exact BK128.out⟩, ⟨by (with_reducible repeat (first | refine blk_drewN ?_ _ | refine blk_drew ?_ | refine blk_alloc ?_ _)); refine blk_far ?_ NB129_143.out _; (with_reducible repeat (first | refine blk_drewN ?_ _ | refine blk_drew ?_ | refine blk_alloc ?_ _)); refine blk_far ?_ NB129_143.out _; (with_reducible repeat (first | refine blk_drewN ?_ _ | refine blk_drew ?_ | refine blk_alloc ?_ _)); refine blk_far ?_ NB129_143.out _; (with_reducible repeat (first | refine blk_drewN ?_ _ | refine blk_drew ?_ | refine blk_alloc ?_ _)); exact BK129.out⟩, ⟨by (with_reducible repeat (first | refine blk_drewN ?_ _ | refine blk_drew ?_ | refine blk_alloc ?_ _)); refine blk_far ?_ NB136_143.out _; (with_reducible repeat (first | refine blk_drewN ?_ _ | refine blk_drew ?_ | refine blk_alloc ?_ _)); refine blk_far ?_ NB136_143.out _; (with_reducible repeat (first | refine blk_drewN ?_ _ | refine blk_drew ?_ | refine blk_alloc ?_ _)); refine blk_far ?_ NB136_143.out _; (with_reducible repeat (first | refine blk_drewN ?_ _ | refine blk_drew ?_ | refine blk_alloc ?_ _)); exact BK136.out⟩, ⟨by repeat (first | (with_reducible first | exact HB.out | apply below_alloc | apply pw_below_drewN | apply below_drew1 | refine below_set ?_ GE128.out | refine below_set ?_ GE129.out | refine below_set ?_ GE136.out | refine below_set ?_ GE143.out) | exact HB.out)⟩⟩
                    · rw [if_neg c48] at H
                      have c48b0 : ((Go.bits .and .u64 t141 1) == 1) = false := beq_eq_false_iff_ne.mpr c48
                      have c48b1 : ((Go.bits .and .u64 t141 1) != 1) = true := bne_iff_ne.mpr c48
                      have H' := Aside0.mk H
                      clear H
                      have hnb84 := NB129_128.out
                      have hnc84 := NB128_129.out
                      have hnb85 := NB129_136.out
                      have hnc85 := NB136_129.out
                      have hcz86_0 : wc.cell? ⟨gb129, 0, none⟩ = some (.int .u64 a2_0) := (blk_cell BK129.out 0).trans rfl
                      have hcz86_1 : wc.cell? ⟨gb129, 1, none⟩ = some (.int .u64 a2_1) := (blk_cell BK129.out 1).trans rfl
                      have hcz86_2 : wc.cell? ⟨gb129, 2, none⟩ = some (.bool a2_2) := (blk_cell BK129.out 2).trans rfl
                      have hfz86_0 := blk_frozen BK129.out 0
                      have hfz86_1 := blk_frozen BK129.out 1
                      have hfz86_2 := blk_frozen BK129.out 2
                      go_wp2_with (first | ((with_reducible refine gate_callee (f := 99) rfl ?_); refine goesL_ (some 56) rfl rfl Try.func99 (by kernel_rfl) rfl #[.agg #[.int .u64 a2_0, .int .u64 a2_1, .bool a2_2], .int .i64 (wrap64 (ji15 - 1))] rfl (by (try simp only [List.map_toArray, List.map_cons, List.map_nil]); first | done | (simp only [hji15]; rfl) | rfl | (simp only [List.length_drop, List.length_take]; rfl)) ?_; (with_reducible refine (ratchetref04_wide_right.calls kj35 a2_0 a2_1 a2_2 (wrap64 (ji15 - 1)) t140 t141 t142 _ A47.out).mono ?_); rintro e w87 ⟨rfl, hb⟩; refine ⟨_, rfl, ?_⟩; have n0_ := Aside0.mk (blk_below (g := gb128) (o := .cells #[.int .i64 a0_0, .int .i64 a0_1] 56 (0, 0)) (by (with_reducible repeat (first | refine blk_drewN ?_ _ | refine blk_drew ?_ | refine blk_alloc ?_ _)); exact BK128.out) hb); have n1_ := Aside0.mk (blk_below (g := gb129) (o := .cells #[.int .u64 a2_0, .int .u64 a2_1, .bool a2_2] 97 (0, 0)) (by (with_reducible repeat (first | refine blk_drewN ?_ _ | refine blk_drew ?_ | refine blk_alloc ?_ _)); exact BK129.out) hb); have n2_ := Aside0.mk (blk_below (g := gb136) (o := .cells #[.int .u64 x137000_16, .int .u64 x137001_16, .bool x137002_16] 97 (0, 0)) (by (with_reducible repeat (first | refine blk_drewN ?_ _ | refine blk_drew ?_ | refine blk_alloc ?_ _)); exact BK136.out) hb); have n3_ := Aside0.mk (below_step (by repeat (first | (with_reducible first | exact HB.out | apply below_alloc | apply pw_below_drewN | apply below_drew1 | refine below_set ?_ GE128.out | refine below_set ?_ GE129.out | refine below_set ?_ GE136.out) | exact HB.out)) hb); clear BK128; clear BK129; clear BK136; clear HB; have BK128 := n0_; have BK129 := n1_; have BK136 := n2_; have HB := n3_; clear n0_ n1_ n2_ n3_; (try clear hb); (try clear hb2); (try clear hk); (try clear hi)) | ((with_reducible refine gate_dst (N := 12) rfl ?_); refine box_event ?hg (N := 12) ?hd (cs := #[.int .u64 0, .int .u64 0, .bool false]) (t := 97) ?hr ?_; (case hd => rfl); (case hg => rfl); (case hr => first | (go_simp; done) | (go_simp; rfl)); intro gb143 hg w88 hbox hb; have n0_ := Aside0.mk (blk_below (g := gb128) (o := .cells #[.int .i64 a0_0, .int .i64 a0_1] 56 (0, 0)) (by (with_reducible repeat (first | refine blk_drewN ?_ _ | refine blk_drew ?_ | refine blk_alloc ?_ _)); exact BK128.out) hb); have n1_ := Aside0.mk (blk_below (g := gb129) (o := .cells #[.int .u64 a2_0, .int .u64 a2_1, .bool a2_2] 97 (0, 0)) (by (with_reducible repeat (first | refine blk_drewN ?_ _ | refine blk_drew ?_ | refine blk_alloc ?_ _)); exact BK129.out) hb); have n2_ := Aside0.mk (blk_below (g := gb136) (o := .cells #[.int .u64 x137000_16, .int .u64 x137001_16, .bool x137002_16] 97 (0, 0)) (by (with_reducible repeat (first | refine blk_drewN ?_ _ | refine blk_drew ?_ | refine blk_alloc ?_ _)); exact BK136.out) hb); have n3_ := Aside0.mk (below_step (by repeat (first | (with_reducible first | exact HB.out | apply below_alloc | apply pw_below_drewN | apply below_drew1 | refine below_set ?_ GE128.out | refine below_set ?_ GE129.out | refine below_set ?_ GE136.out) | exact HB.out)) hb); have n4_ := Aside0.mk (hbox); have n5_ := Aside0.mk ((by rw [hg]; exact (below_size (by repeat (first | (with_reducible first | exact HB.out | apply below_alloc | apply pw_below_drewN | apply below_drew1 | refine below_set ?_ GE128.out | refine below_set ?_ GE129.out | refine below_set ?_ GE136.out) | exact HB.out))) : w.heap.size ≤ gb143)); have n6_ := Aside0.mk ((by rw [hg]; exact (below_size (by repeat (first | (with_reducible first | exact HB.out | apply below_alloc | apply pw_below_drewN | apply below_drew1 | refine below_set ?_ GE128.out | refine below_set ?_ GE129.out | refine below_set ?_ GE136.out) | exact HB.out))) : w.heap.size ≤ gb143)); have n7_ := Aside0.mk ((by rw [hg]; exact Nat.ne_of_lt (blk_lt (g := gb128) (o := .cells #[.int .i64 a0_0, .int .i64 a0_1] 56 (0, 0)) (by (with_reducible repeat (first | refine blk_drewN ?_ _ | refine blk_drew ?_ | refine blk_alloc ?_ _)); exact BK128.out)) : gb128 ≠ gb143)); have n8_ := Aside0.mk ((by rw [hg]; exact Nat.ne_of_gt (blk_lt (g := gb128) (o := .cells #[.int .i64 a0_0, .int .i64 a0_1] 56 (0, 0)) (by (with_reducible repeat (first | refine blk_drewN ?_ _ | refine blk_drew ?_ | refine blk_alloc ?_ _)); exact BK128.out)) : gb143 ≠ gb128)); have n9_ := Aside0.mk ((by rw [hg]; exact Nat.ne_of_lt (blk_lt (g := gb129) (o := .cells #[.int .u64 a2_0, .int .u64 a2_1, .bool a2_2] 97 (0, 0)) (by (with_reducible repeat (first | refine blk_drewN ?_ _ | refine blk_drew ?_ | refine blk_alloc ?_ _)); exact BK129.out)) : gb129 ≠ gb143)); have n10_ := Aside0.mk ((by rw [hg]; exact Nat.ne_of_gt (blk_lt (g := gb129) (o := .cells #[.int .u64 a2_0, .int .u64 a2_1, .bool a2_2] 97 (0, 0)) (by (with_reducible repeat (first | refine blk_drewN ?_ _ | refine blk_drew ?_ | refine blk_alloc ?_ _)); exact BK129.out)) : gb143 ≠ gb129)); have n11_ := Aside0.mk ((by rw [hg]; exact Nat.ne_of_lt (blk_lt (g := gb136) (o := .cells #[.int .u64 x137000_16, .int .u64 x137001_16, .bool x137002_16] 97 (0, 0)) (by (with_reducible repeat (first | refine blk_drewN ?_ _ | refine blk_drew ?_ | refine blk_alloc ?_ _)); exact BK136.out)) : gb136 ≠ gb143)); have n12_ := Aside0.mk ((by rw [hg]; exact Nat.ne_of_gt (blk_lt (g := gb136) (o := .cells #[.int .u64 x137000_16, .int .u64 x137001_16, .bool x137002_16] 97 (0, 0)) (by (with_reducible repeat (first | refine blk_drewN ?_ _ | refine blk_drew ?_ | refine blk_alloc ?_ _)); exact BK136.out)) : gb143 ≠ gb136)); clear BK128; clear BK129; clear BK136; clear HB; have BK128 := n0_; have BK129 := n1_; have BK136 := n2_; have HB := n3_; have BK143 := n4_; have GW143 := n5_; have GE143 := n6_; have NB128_143 := n7_; have NB143_128 := n8_; have NB129_143 := n9_; have NB143_129 := n10_; have NB136_143 := n11_; have NB143_136 := n12_; clear n0_ n1_ n2_ n3_ n4_ n5_ n6_ n7_ n8_ n9_ n10_ n11_ n12_; clear hb hbox hg; have hnb89 := NB143_128.out; have hnc89 := NB128_143.out; have hnb90 := NB143_129.out; have hnc90 := NB129_143.out; have hnb91 := NB143_136.out; have hnc91 := NB136_143.out; have hcz92_0 : w88.cell? ⟨gb143, 0, none⟩ = some (.int .u64 0) := (blk_cell BK143.out 0).trans rfl; have hcz92_1 : w88.cell? ⟨gb143, 1, none⟩ = some (.int .u64 0) := (blk_cell BK143.out 1).trans rfl; have hcz92_2 : w88.cell? ⟨gb143, 2, none⟩ = some (.bool false) := (blk_cell BK143.out 2).trans rfl; have hfz92_0 := blk_frozen BK143.out 0; have hfz92_1 := blk_frozen BK143.out 1; have hfz92_2 := blk_frozen BK143.out 2))
                      go_meet
                      case rel => exact ⟨_, (x137001_16), H', ⟨by have := HJ4.out; have := HJ16.out; have := HJ35.out; first | omega | exact Nat.le_refl _⟩, ⟨by (with_reducible repeat (first | refine blk_drewN ?_ _ | refine blk_drew ?_ | refine blk_alloc ?_ _)); refine blk_far ?_ NB128_143.out _; (with_reducible repeat (first | refine blk_drewN ?_ _ | refine blk_drew ?_ | refine blk_alloc ?_ _)); refine blk_far ?_ NB128_143.out _; (with_reducible repeat (first | refine blk_drewN ?_ _ | refine blk_drew ?_ | refine blk_alloc ?_ _)); refine blk_far ?_ NB128_143.out _; (with_reducible repeat (first | refine blk_drewN ?_ _ | refine blk_drew ?_ | refine blk_alloc ?_ _)); exact BK128.out⟩, ⟨by (with_reducible repeat (first | refine blk_drewN ?_ _ | refine blk_drew ?_ | refine blk_alloc ?_ _)); refine blk_far ?_ NB129_143.out _; (with_reducible repeat (first | refine blk_drewN ?_ _ | refine blk_drew ?_ | refine blk_alloc ?_ _)); refine blk_far ?_ NB129_143.out _; (with_reducible repeat (first | refine blk_drewN ?_ _ | refine blk_drew ?_ | refine blk_alloc ?_ _)); refine blk_far ?_ NB129_143.out _; (with_reducible repeat (first | refine blk_drewN ?_ _ | refine blk_drew ?_ | refine blk_alloc ?_ _)); exact BK129.out⟩, ⟨by (with_reducible repeat (first | refine blk_drewN ?_ _ | refine blk_drew ?_ | refine blk_alloc ?_ _)); refine blk_far ?_ NB136_143.out _; (with_reducible repeat (first | refine blk_drewN ?_ _ | refine blk_drew ?_ | refine blk_alloc ?_ _)); refine blk_far ?_ NB136_143.out _; (with_reducible repeat (first | refine blk_drewN ?_ _ | refine blk_drew ?_ | refine blk_alloc ?_ _)); refine blk_far ?_ NB136_143.out _; (with_reducible repeat (first | refine blk_drewN ?_ _ | refine blk_drew ?_ | refine blk_alloc ?_ _)); exact BK136.out⟩, ⟨by repeat (first | (with_reducible first | exact HB.out | apply below_alloc | apply pw_below_drewN | apply below_drew1 | refine below_set ?_ GE128.out | refine below_set ?_ GE129.out | refine below_set ?_ GE136.out | refine below_set ?_ GE143.out) | exact HB.out)⟩⟩
                  · rw [if_neg c46] at H
                    have c46b0 : decide (0 < ji15) = false := decide_eq_false c46
                    clear c46
                    (first | rw [c46b0] | (simp only [i64_w, i32_w]; rw [c46b0]) | skip)
                    have H' := Aside0.mk H
                    clear H
                    go_wp2
                    go_meet
                    case rel => exact ⟨_, (x137001_16), H', ⟨by have := HJ4.out; have := HJ16.out; have := HJ35.out; first | omega | exact Nat.le_refl _⟩, ⟨by (with_reducible repeat (first | refine blk_drewN ?_ _ | refine blk_drew ?_ | refine blk_alloc ?_ _)); exact BK128.out⟩, ⟨by (with_reducible repeat (first | refine blk_drewN ?_ _ | refine blk_drew ?_ | refine blk_alloc ?_ _)); exact BK129.out⟩, ⟨by (with_reducible repeat (first | refine blk_drewN ?_ _ | refine blk_drew ?_ | refine blk_alloc ?_ _)); exact BK136.out⟩, ⟨by repeat (first | (with_reducible first | exact HB.out | apply below_alloc | apply pw_below_drewN | apply below_drew1 | refine below_set ?_ GE128.out | refine below_set ?_ GE129.out | refine below_set ?_ GE136.out) | exact HB.out)⟩⟩
                case rest =>
                  clear HC45
                  try clear c1
                  try clear c2
                  try clear p2
                  try clear c3
                  try clear c4
                  try clear c5
                  try clear c6
                  try clear p6
                  try clear c7
                  try clear c8
                  try clear c9
                  try clear c10
                  try clear c21
                  try clear c25
                  try clear c26
                  try clear c28
                  try clear c28b0
                  try clear c30
                  try clear c31
                  try clear c34
                  try clear c37
                  try clear c37b0
                  try clear c37b1
                  try clear c38
                  try clear c39
                  try clear c41
                  try clear c42
                  try clear c44
                  try clear c46
                  try clear c46b0
                  try clear c48
                  try clear c48b0
                  try clear c48b1
                  try clear c49
                  try clear c50
                  try clear c51
                  try clear c55
                  try clear c56
                  try clear c57
                  try clear c59
                  try clear c61
                  try clear c61b0
                  try clear c61b1
                  try clear c62
                  try clear c63
                  try clear p64
                  try clear c67
                  try clear c68
                  try clear c69
                  try clear c71
                  try clear c73
                  try clear c74
                  try clear c78
                  try clear c79
                  try clear c80
                  try clear c82
                  try clear c84
                  try clear c85
                  try clear c89
                  try clear c90
                  try clear c91
                  try clear hcz11_0
                  try clear hcz11_1
                  try clear hcz22_0
                  try clear hcz22_1
                  try clear hcz22_2
                  try clear hcz27_0
                  try clear hcz27_1
                  try clear hcz27_2
                  try clear hcz32_0
                  try clear hcz32_1
                  try clear hcz32_2
                  try clear hcz35_0
                  try clear hcz35_1
                  try clear hcz35_2
                  try clear hcz40_0
                  try clear hcz40_1
                  try clear hcz40_2
                  try clear hcz43_0
                  try clear hcz43_1
                  try clear hcz43_2
                  try clear hcz52_0
                  try clear hcz52_1
                  try clear hcz52_2
                  try clear hcz58_0
                  try clear hcz58_1
                  try clear hcz58_2
                  try clear hcz60_0
                  try clear hcz60_1
                  try clear hcz60_2
                  try clear hcz64_0
                  try clear hcz64_1
                  try clear hcz64_2
                  try clear hcz70_0
                  try clear hcz70_1
                  try clear hcz70_2
                  try clear hcz72_0
                  try clear hcz72_1
                  try clear hcz72_2
                  try clear hcz75_0
                  try clear hcz75_1
                  try clear hcz75_2
                  try clear hcz81_0
                  try clear hcz81_1
                  try clear hcz81_2
                  try clear hcz83_0
                  try clear hcz83_1
                  try clear hcz83_2
                  try clear hcz86_0
                  try clear hcz86_1
                  try clear hcz86_2
                  try clear hcz92_0
                  try clear hcz92_1
                  try clear hcz92_2
                  try clear hfz11_0
                  try clear hfz11_1
                  try clear hfz22_0
                  try clear hfz22_1
                  try clear hfz22_2
                  try clear hfz27_0
                  try clear hfz27_1
                  try clear hfz27_2
                  try clear hfz32_0
                  try clear hfz32_1
                  try clear hfz32_2
                  try clear hfz35_0
                  try clear hfz35_1
                  try clear hfz35_2
                  try clear hfz40_0
                  try clear hfz40_1
                  try clear hfz40_2
                  try clear hfz43_0
                  try clear hfz43_1
                  try clear hfz43_2
                  try clear hfz52_0
                  try clear hfz52_1
                  try clear hfz52_2
                  try clear hfz58_0
                  try clear hfz58_1
                  try clear hfz58_2
                  try clear hfz60_0
                  try clear hfz60_1
                  try clear hfz60_2
                  try clear hfz64_0
                  try clear hfz64_1
                  try clear hfz64_2
                  try clear hfz70_0
                  try clear hfz70_1
                  try clear hfz70_2
                  try clear hfz72_0
                  try clear hfz72_1
                  try clear hfz72_2
                  try clear hfz75_0
                  try clear hfz75_1
                  try clear hfz75_2
                  try clear hfz81_0
                  try clear hfz81_1
                  try clear hfz81_2
                  try clear hfz83_0
                  try clear hfz83_1
                  try clear hfz83_2
                  try clear hfz86_0
                  try clear hfz86_1
                  try clear hfz86_2
                  try clear hfz92_0
                  try clear hfz92_1
                  try clear hfz92_2
                  try clear p2
                  try clear p6
                  obtain ⟨kq, x137001_44, HA, HJ44, BK128, BK129, BK136, HB⟩ := hcut
                  cases kq with
                  | zero => exact absurd HA.out (by simp [ratchetref04_Format_Round.j3])
                  | succ kj44 =>
                    have H := HA.out
                    clear HA
                    simp only [ratchetref04_Format_Round.j3] at H
                    obtain ⟨ji93, hji93⟩ : ∃ j_ : Int, (IntKind.u64.wrap (wrap64 (a0_0 + 1))) = j_ := ⟨_, rfl⟩
                    replace H : (if 0 ≤ (ji93) then (if (shr .u64 x137001_44 (ji93)) = 1 then (ratchetref04_Format_Round.j4 kj44 (wrap64 ((wrap64 (a3 + ji15)) + 1)) x9_4 a0_0 a0_1 x137000_16 (x137001_44 / 2) x137002_16) else (ratchetref04_Format_Round.j4 kj44 (wrap64 (a3 + ji15)) x9_4 a0_0 a0_1 x137000_16 x137001_44 x137002_16)) else (none)) = some r := by first | (rw [hji93] at H; exact H) | (simp only [hji93] at H ⊢; exact H)
                    by_cases c94 : 0 ≤ (ji93)
                    · rw [if_pos c94] at H
                      have c94b0 := eq_true c94
                      have c94b1 : decide (0 ≤ (ji93)) = true := decide_eq_true c94
                      clear c94
                      obtain ⟨ji95, hji95⟩ : ∃ j_ : Int, (shr .u64 x137001_44 (ji93)) = j_ := ⟨_, rfl⟩
                      replace H : (if (ji95) = 1 then (ratchetref04_Format_Round.j4 kj44 (wrap64 ((wrap64 (a3 + ji15)) + 1)) x9_4 a0_0 a0_1 x137000_16 (x137001_44 / 2) x137002_16) else (ratchetref04_Format_Round.j4 kj44 (wrap64 (a3 + ji15)) x9_4 a0_0 a0_1 x137000_16 x137001_44 x137002_16)) = some r := by first | (rw [hji95] at H; exact H) | (simp only [hji95] at H ⊢; exact H)
                      have hji95_ : (x137001_44 / 2 ^ min (ji93).toNat 64) = ji95 := hji95
                      have hji95z : (ji93) ≤ 64 → (x137001_44 / 2 ^ (ji93).toNat) = ji95 := shr_small hji95
                      have HC96 := Aside0.mk H
                      clear H
                      have hnb97 := NB136_128.out
                      have hnc97 := NB128_136.out
                      have hnb98 := NB136_129.out
                      have hnc98 := NB129_136.out
                      have hcz99_0 : wc.cell? ⟨gb136, 0, none⟩ = some (.int .u64 x137000_16) := (blk_cell BK136.out 0).trans rfl
                      have hcz99_1 : wc.cell? ⟨gb136, 1, none⟩ = some (.int .u64 x137001_44) := (blk_cell BK136.out 1).trans rfl
                      have hcz99_2 : wc.cell? ⟨gb136, 2, none⟩ = some (.bool x137002_16) := (blk_cell BK136.out 2).trans rfl
                      have hfz99_0 := blk_frozen BK136.out 0
                      have hfz99_1 := blk_frozen BK136.out 1
                      have hfz99_2 := blk_frozen BK136.out 2
                      have hnb100 := NB128_129.out
                      have hnc100 := NB129_128.out
                      have hcz101_0 : wc.cell? ⟨gb128, 0, none⟩ = some (.int .i64 a0_0) := (blk_cell BK128.out 0).trans rfl
                      have hcz101_1 : wc.cell? ⟨gb128, 1, none⟩ = some (.int .i64 a0_1) := (blk_cell BK128.out 1).trans rfl
                      have hfz101_0 := blk_frozen BK128.out 0
                      have hfz101_1 := blk_frozen BK128.out 1
                      go_upto_if 83 with (fail)
                      go_cut [3] (fun v3 wc => ∃ (kq : Nat) (x3_95 : Int) (x137001_95 : Int), v3 = .int .i64 x3_95 ∧ Aside0 (ratchetref04_Format_Round.j4 kq x3_95 x9_4 a0_0 a0_1 x137000_16 x137001_95 x137002_16 = some r) ∧ Aside0 (kq ≤ kj44) ∧ Aside0 (wc.heap[gb128]? = some (.cells #[.int .i64 a0_0, .int .i64 a0_1] 56 (0, 0))) ∧ Aside0 (wc.heap[gb129]? = some (.cells #[.int .u64 a2_0, .int .u64 a2_1, .bool a2_2] 97 (0, 0))) ∧ Aside0 (wc.heap[gb136]? = some (.cells #[.int .u64 x137000_16, .int .u64 x137001_95, .bool x137002_16] 97 (0, 0))) ∧ Aside0 (Below w.heap.size w wc))
                      case first =>
                        have H := HC96.out
                        clear HC96
                        by_cases c102 : (ji95) = 1
                        · rw [if_pos c102] at H
                          have c102b0 : ((ji95) == 1) = true := beq_iff_eq.mpr c102
                          have c102b1 : ((ji95) != 1) = false := bne_eq_false_iff_eq.mpr c102
                          clear c102
                          (first | rw [c102b0] | (simp only [i64_w, i32_w]; rw [c102b0]) | skip)
                          have H' := Aside0.mk H
                          clear H
                          have hnb103 := NB136_128.out
                          have hnc103 := NB128_136.out
                          have hnb104 := NB136_129.out
                          have hnc104 := NB129_136.out
                          have hcz105_0 : wc.cell? ⟨gb136, 0, none⟩ = some (.int .u64 x137000_16) := (blk_cell BK136.out 0).trans rfl
                          have hcz105_1 : wc.cell? ⟨gb136, 1, none⟩ = some (.int .u64 x137001_44) := (blk_cell BK136.out 1).trans rfl
                          have hcz105_2 : wc.cell? ⟨gb136, 2, none⟩ = some (.bool x137002_16) := (blk_cell BK136.out 2).trans rfl
                          have hfz105_0 := blk_frozen BK136.out 0
                          have hfz105_1 := blk_frozen BK136.out 1
                          have hfz105_2 := blk_frozen BK136.out 2
                          go_wp2
                          go_meet
                          case rel => exact ⟨_, (wrap64 ((wrap64 (a3 + ji15)) + 1)), (x137001_44 / 2), (by first | rfl | (simp; done) | (simp only [← hji15] <;> (first | rfl | simp)) | (simp [*]; done)), H', ⟨by have := HJ4.out; have := HJ16.out; have := HJ35.out; have := HJ44.out; first | omega | exact Nat.le_refl _⟩, ⟨by (with_reducible repeat (first | refine blk_drewN ?_ _ | refine blk_drew ?_ | refine blk_alloc ?_ _)); refine blk_far ?_ NB128_136.out _; (with_reducible repeat (first | refine blk_drewN ?_ _ | refine blk_drew ?_ | refine blk_alloc ?_ _)); exact BK128.out⟩, ⟨by (with_reducible repeat (first | refine blk_drewN ?_ _ | refine blk_drew ?_ | refine blk_alloc ?_ _)); refine blk_far ?_ NB129_136.out _; (with_reducible repeat (first | refine blk_drewN ?_ _ | refine blk_drew ?_ | refine blk_alloc ?_ _)); exact BK129.out⟩, ⟨by (with_reducible repeat (first | refine blk_drewN ?_ _ | refine blk_drew ?_ | refine blk_alloc ?_ _)); refine blk_put (cs := #[.int .u64 x137000_16, .int .u64 x137001_44, .bool x137002_16]) ?_ 1 _ rfl; (with_reducible repeat (first | refine blk_drewN ?_ _ | refine blk_drew ?_ | refine blk_alloc ?_ _)); exact BK136.out⟩, ⟨by repeat (first | (with_reducible first | exact HB.out | apply below_alloc | apply pw_below_drewN | apply below_drew1 | refine below_set ?_ GE128.out | refine below_set ?_ GE129.out | refine below_set ?_ GE136.out) | exact HB.out)⟩⟩
                        · rw [if_neg c102] at H
                          have c102b0 : ((ji95) == 1) = false := beq_eq_false_iff_ne.mpr c102
                          have c102b1 : ((ji95) != 1) = true := bne_iff_ne.mpr c102
                          (first | rw [c102b0] | (simp only [i64_w, i32_w]; rw [c102b0]) | skip)
                          have H' := Aside0.mk H
                          clear H
                          go_wp2
                          go_meet
                          case rel => exact ⟨_, ((wrap64 (a3 + ji15))), (x137001_44), (by first | rfl | (simp; done) | (simp only [← hji15] <;> (first | rfl | simp)) | (simp [*]; done)), H', ⟨by have := HJ4.out; have := HJ16.out; have := HJ35.out; have := HJ44.out; first | omega | exact Nat.le_refl _⟩, ⟨by (with_reducible repeat (first | refine blk_drewN ?_ _ | refine blk_drew ?_ | refine blk_alloc ?_ _)); exact BK128.out⟩, ⟨by (with_reducible repeat (first | refine blk_drewN ?_ _ | refine blk_drew ?_ | refine blk_alloc ?_ _)); exact BK129.out⟩, ⟨by (with_reducible repeat (first | refine blk_drewN ?_ _ | refine blk_drew ?_ | refine blk_alloc ?_ _)); exact BK136.out⟩, ⟨by repeat (first | (with_reducible first | exact HB.out | apply below_alloc | apply pw_below_drewN | apply below_drew1 | refine below_set ?_ GE128.out | refine below_set ?_ GE129.out | refine below_set ?_ GE136.out) | exact HB.out)⟩⟩
                      case rest =>
                        clear HC96
                        try clear c1
                        try clear c2
                        try clear p2
                        try clear c3
                        try clear c4
                        try clear c5
                        try clear c6
                        try clear p6
                        try clear c7
                        try clear c8
                        try clear c9
                        try clear c10
                        try clear c21
                        try clear c25
                        try clear c26
                        try clear c28
                        try clear c28b0
                        try clear c30
                        try clear c31
                        try clear c34
                        try clear c37
                        try clear c37b0
                        try clear c37b1
                        try clear c38
                        try clear c39
                        try clear c41
                        try clear c42
                        try clear c44
                        try clear c46
                        try clear c46b0
                        try clear c48
                        try clear c48b0
                        try clear c48b1
                        try clear c49
                        try clear c50
                        try clear c51
                        try clear c55
                        try clear c56
                        try clear c57
                        try clear c59
                        try clear c61
                        try clear c61b0
                        try clear c61b1
                        try clear c62
                        try clear c63
                        try clear p64
                        try clear c67
                        try clear c68
                        try clear c69
                        try clear c71
                        try clear c73
                        try clear c74
                        try clear c78
                        try clear c79
                        try clear c80
                        try clear c82
                        try clear c84
                        try clear c85
                        try clear c89
                        try clear c90
                        try clear c91
                        try clear c94
                        try clear c94b0
                        try clear c94b1
                        try clear c97
                        try clear c98
                        try clear c99
                        try clear c100
                        try clear c102
                        try clear c102b0
                        try clear c102b1
                        try clear c103
                        try clear c104
                        try clear hcz101_0
                        try clear hcz101_1
                        try clear hcz105_0
                        try clear hcz105_1
                        try clear hcz105_2
                        try clear hcz11_0
                        try clear hcz11_1
                        try clear hcz22_0
                        try clear hcz22_1
                        try clear hcz22_2
                        try clear hcz27_0
                        try clear hcz27_1
                        try clear hcz27_2
                        try clear hcz32_0
                        try clear hcz32_1
                        try clear hcz32_2
                        try clear hcz35_0
                        try clear hcz35_1
                        try clear hcz35_2
                        try clear hcz40_0
                        try clear hcz40_1
                        try clear hcz40_2
                        try clear hcz43_0
                        try clear hcz43_1
                        try clear hcz43_2
                        try clear hcz52_0
                        try clear hcz52_1
                        try clear hcz52_2
                        try clear hcz58_0
                        try clear hcz58_1
                        try clear hcz58_2
                        try clear hcz60_0
                        try clear hcz60_1
                        try clear hcz60_2
                        try clear hcz64_0
                        try clear hcz64_1
                        try clear hcz64_2
                        try clear hcz70_0
                        try clear hcz70_1
                        try clear hcz70_2
                        try clear hcz72_0
                        try clear hcz72_1
                        try clear hcz72_2
                        try clear hcz75_0
                        try clear hcz75_1
                        try clear hcz75_2
                        try clear hcz81_0
                        try clear hcz81_1
                        try clear hcz81_2
                        try clear hcz83_0
                        try clear hcz83_1
                        try clear hcz83_2
                        try clear hcz86_0
                        try clear hcz86_1
                        try clear hcz86_2
                        try clear hcz92_0
                        try clear hcz92_1
                        try clear hcz92_2
                        try clear hcz99_0
                        try clear hcz99_1
                        try clear hcz99_2
                        try clear hfz101_0
                        try clear hfz101_1
                        try clear hfz105_0
                        try clear hfz105_1
                        try clear hfz105_2
                        try clear hfz11_0
                        try clear hfz11_1
                        try clear hfz22_0
                        try clear hfz22_1
                        try clear hfz22_2
                        try clear hfz27_0
                        try clear hfz27_1
                        try clear hfz27_2
                        try clear hfz32_0
                        try clear hfz32_1
                        try clear hfz32_2
                        try clear hfz35_0
                        try clear hfz35_1
                        try clear hfz35_2
                        try clear hfz40_0
                        try clear hfz40_1
                        try clear hfz40_2
                        try clear hfz43_0
                        try clear hfz43_1
                        try clear hfz43_2
                        try clear hfz52_0
                        try clear hfz52_1
                        try clear hfz52_2
                        try clear hfz58_0
                        try clear hfz58_1
                        try clear hfz58_2
                        try clear hfz60_0
                        try clear hfz60_1
                        try clear hfz60_2
                        try clear hfz64_0
                        try clear hfz64_1
                        try clear hfz64_2
                        try clear hfz70_0
                        try clear hfz70_1
                        try clear hfz70_2
                        try clear hfz72_0
                        try clear hfz72_1
                        try clear hfz72_2
                        try clear hfz75_0
                        try clear hfz75_1
                        try clear hfz75_2
                        try clear hfz81_0
                        try clear hfz81_1
                        try clear hfz81_2
                        try clear hfz83_0
                        try clear hfz83_1
                        try clear hfz83_2
                        try clear hfz86_0
                        try clear hfz86_1
                        try clear hfz86_2
                        try clear hfz92_0
                        try clear hfz92_1
                        try clear hfz92_2
                        try clear hfz99_0
                        try clear hfz99_1
                        try clear hfz99_2
                        try clear p2
                        try clear p6
                        try clear p64
                        obtain ⟨kq, x3_95, x137001_95, rfl, HA, HJ95, BK128, BK129, BK136, HB⟩ := hcut
                        cases kq with
                        | zero => exact absurd HA.out (by simp [ratchetref04_Format_Round.j4])
                        | succ kj95 =>
                          have H := HA.out
                          clear HA
                          simp only [ratchetref04_Format_Round.j4] at H
                          obtain ⟨ji106, hji106⟩ : ∃ j_ : Int, (IntKind.u64.wrap (a0_0)) = j_ := ⟨_, rfl⟩
                          replace H : (if 0 ≤ (ji106) then (if (shr .u64 x137001_95 (ji106)) = 0 then (some (IntKind.u64.wrap (x9_4 + x137001_95))) else ((ratchetref04_Format_bias.f a0_0 a0_1).bind fun t144 => (if 0 ≤ (IntKind.u64.wrap (a0_1)) then (if (wrap64 (x3_95 + t144)) ≥ (wrap64 ((shl .i64 1 (IntKind.u64.wrap (a0_1))) - 1)) then ((ratchetref04_Format_inf.f a0_0 a0_1).bind fun t145 => (some (IntKind.u64.wrap (x9_4 + t145)))) else (some (IntKind.u64.wrap ((IntKind.u64.wrap ((IntKind.u64.wrap (x9_4 + (shl .u64 (IntKind.u64.wrap (wrap64 (x3_95 + t144))) (ji106)))) + x137001_95)) - (shl .u64 1 (ji106)))))) else (none)))) else (none)) = some r := by first | (rw [hji106] at H; exact H) | (simp only [hji106] at H ⊢; exact H)
                          by_cases c107 : 0 ≤ (ji106)
                          · rw [if_pos c107] at H
                            have c107b0 := eq_true c107
                            have c107b1 : decide (0 ≤ (ji106)) = true := decide_eq_true c107
                            clear c107
                            obtain ⟨ji108, hji108⟩ : ∃ j_ : Int, (shr .u64 x137001_95 (ji106)) = j_ := ⟨_, rfl⟩
                            replace H : (if (ji108) = 0 then (some (IntKind.u64.wrap (x9_4 + x137001_95))) else ((ratchetref04_Format_bias.f a0_0 a0_1).bind fun t144 => (if 0 ≤ (IntKind.u64.wrap (a0_1)) then (if (wrap64 (x3_95 + t144)) ≥ (wrap64 ((shl .i64 1 (IntKind.u64.wrap (a0_1))) - 1)) then ((ratchetref04_Format_inf.f a0_0 a0_1).bind fun t145 => (some (IntKind.u64.wrap (x9_4 + t145)))) else (some (IntKind.u64.wrap ((IntKind.u64.wrap ((IntKind.u64.wrap (x9_4 + (shl .u64 (IntKind.u64.wrap (wrap64 (x3_95 + t144))) (ji106)))) + x137001_95)) - (shl .u64 1 (ji106)))))) else (none)))) = some r := by first | (rw [hji108] at H; exact H) | (simp only [hji108] at H ⊢; exact H)
                            have hji108_ : (x137001_95 / 2 ^ min (ji106).toNat 64) = ji108 := hji108
                            have hji108z : (ji106) ≤ 64 → (x137001_95 / 2 ^ (ji106).toNat) = ji108 := shr_small hji108
                            by_cases c109 : (ji108) = 0
                            · rw [if_pos c109] at H
                              have c109b0 : ((ji108) == 0) = true := beq_iff_eq.mpr c109
                              have c109b1 : ((ji108) != 0) = false := bne_eq_false_iff_eq.mpr c109
                              clear c109
                              obtain rfl := Option.some.inj H
                              have hnb110 := NB136_128.out
                              have hnc110 := NB128_136.out
                              have hnb111 := NB136_129.out
                              have hnc111 := NB129_136.out
                              have hcz112_0 : wc.cell? ⟨gb136, 0, none⟩ = some (.int .u64 x137000_16) := (blk_cell BK136.out 0).trans rfl
                              have hcz112_1 : wc.cell? ⟨gb136, 1, none⟩ = some (.int .u64 x137001_95) := (blk_cell BK136.out 1).trans rfl
                              have hcz112_2 : wc.cell? ⟨gb136, 2, none⟩ = some (.bool x137002_16) := (blk_cell BK136.out 2).trans rfl
                              have hfz112_0 := blk_frozen BK136.out 0
                              have hfz112_1 := blk_frozen BK136.out 1
                              have hfz112_2 := blk_frozen BK136.out 2
                              have hnb113 := NB128_129.out
                              have hnc113 := NB129_128.out
                              have hcz114_0 : wc.cell? ⟨gb128, 0, none⟩ = some (.int .i64 a0_0) := (blk_cell BK128.out 0).trans rfl
                              have hcz114_1 : wc.cell? ⟨gb128, 1, none⟩ = some (.int .i64 a0_1) := (blk_cell BK128.out 1).trans rfl
                              have hfz114_0 := blk_frozen BK128.out 0
                              have hfz114_1 := blk_frozen BK128.out 1
                              go_wp2
                              go_ret
                              exact ⟨by first | rfl | (simp [errW_none, errW_some] <;> rfl) | (simp only [← hji15, ← hji93, ← hji95, ← hji106, ← hji108]; first | rfl | (simp [errW_none, errW_some] <;> rfl)) | (simp [*, errW_none, errW_some] <;> rfl), by repeat (first | (with_reducible first | exact HB.out | apply below_alloc | apply pw_below_drewN | apply below_drew1 | refine below_set ?_ GE128.out | refine below_set ?_ GE129.out | refine below_set ?_ GE136.out) | exact HB.out)⟩
                            · rw [if_neg c109] at H
                              have c109b0 : ((ji108) == 0) = false := beq_eq_false_iff_ne.mpr c109
                              have c109b1 : ((ji108) != 0) = true := bne_iff_ne.mpr c109
                              replace H := Option.bind_eq_some_iff.mp H
                              obtain ⟨t144, A1150, H⟩ := H
                              replace H : (if 0 ≤ (IntKind.u64.wrap (a0_1)) then (if (wrap64 (x3_95 + t144)) ≥ (wrap64 ((shl .i64 1 (IntKind.u64.wrap (a0_1))) - 1)) then ((ratchetref04_Format_inf.f a0_0 a0_1).bind fun t145 => (some (IntKind.u64.wrap (x9_4 + t145)))) else (some (IntKind.u64.wrap ((IntKind.u64.wrap ((IntKind.u64.wrap (x9_4 + (shl .u64 (IntKind.u64.wrap (wrap64 (x3_95 + t144))) (ji106)))) + x137001_95)) - (shl .u64 1 (ji106)))))) else (none)) = some r := H
                              have A115 := Aside0.mk A1150
                              clear A1150
                              obtain ⟨ji116, hji116⟩ : ∃ j_ : Int, (IntKind.u64.wrap (a0_1)) = j_ := ⟨_, rfl⟩
                              replace H : (if 0 ≤ (ji116) then (if (wrap64 (x3_95 + t144)) ≥ (wrap64 ((shl .i64 1 (ji116)) - 1)) then ((ratchetref04_Format_inf.f a0_0 a0_1).bind fun t145 => (some (IntKind.u64.wrap (x9_4 + t145)))) else (some (IntKind.u64.wrap ((IntKind.u64.wrap ((IntKind.u64.wrap (x9_4 + (shl .u64 (IntKind.u64.wrap (wrap64 (x3_95 + t144))) (ji106)))) + x137001_95)) - (shl .u64 1 (ji106)))))) else (none)) = some r := by first | (rw [hji116] at H; exact H) | (simp only [hji116] at H ⊢; exact H)
                              (try rw [hji116] at A115)
                              by_cases c117 : 0 ≤ (ji116)
                              · rw [if_pos c117] at H
                                have c117b0 := eq_true c117
                                have c117b1 : decide (0 ≤ (ji116)) = true := decide_eq_true c117
                                clear c117
                                obtain ⟨ji118, hji118⟩ : ∃ j_ : Int, (shl .i64 1 (ji116)) = j_ := ⟨_, rfl⟩
                                replace H : (if (wrap64 (x3_95 + t144)) ≥ (wrap64 ((ji118) - 1)) then ((ratchetref04_Format_inf.f a0_0 a0_1).bind fun t145 => (some (IntKind.u64.wrap (x9_4 + t145)))) else (some (IntKind.u64.wrap ((IntKind.u64.wrap ((IntKind.u64.wrap (x9_4 + (shl .u64 (IntKind.u64.wrap (wrap64 (x3_95 + t144))) (ji106)))) + x137001_95)) - (shl .u64 1 (ji106)))))) = some r := by first | (rw [hji118] at H; exact H) | (simp only [hji118] at H ⊢; exact H)
                                (try rw [hji118] at A115)
                                have hji118_ : (IntKind.i64.wrap (1 * 2 ^ min (ji116).toNat 64)) = ji118 := hji118
                                have hji118z : (ji116) ≤ 64 → (IntKind.i64.wrap (1 * 2 ^ (ji116).toNat)) = ji118 := shl_small hji118
                                have hji118u : (IntKind.i64.wrap (2 ^ min (ji116).toNat 64)) = ji118 := by have h_ := hji118_; rw [Int.one_mul] at h_; exact h_
                                have hji118v : (ji116) ≤ 64 → (IntKind.i64.wrap (2 ^ (ji116).toNat)) = ji118 := fun hle_ => by have h_ := hji118z hle_; rw [Int.one_mul] at h_; exact h_
                                have hji118y : (wrap64 (1 * 2 ^ min (ji116).toNat 64)) = ji118 := (i64_w _).symm.trans hji118_
                                have hji118x : (ji116) ≤ 64 → (wrap64 (1 * 2 ^ (ji116).toNat)) = ji118 := fun h_ => (i64_w _).symm.trans (hji118z h_)
                                by_cases c119 : (wrap64 (x3_95 + t144)) ≥ (wrap64 ((ji118) - 1))
                                · rw [if_pos c119] at H
                                  have c119b0 : decide ((wrap64 ((ji118) - 1)) ≤ (wrap64 (x3_95 + t144))) = true := decide_eq_true c119
                                  clear c119
                                  replace H := Option.bind_eq_some_iff.mp H
                                  obtain ⟨t145, A1200, H⟩ := H
                                  replace H : (some (IntKind.u64.wrap (x9_4 + t145))) = some r := H
                                  have A120 := Aside0.mk A1200
                                  clear A1200
                                  obtain rfl := Option.some.inj H
                                  have hnb121 := NB136_128.out
                                  have hnc121 := NB128_136.out
                                  have hnb122 := NB136_129.out
                                  have hnc122 := NB129_136.out
                                  have hcz123_0 : wc.cell? ⟨gb136, 0, none⟩ = some (.int .u64 x137000_16) := (blk_cell BK136.out 0).trans rfl
                                  have hcz123_1 : wc.cell? ⟨gb136, 1, none⟩ = some (.int .u64 x137001_95) := (blk_cell BK136.out 1).trans rfl
                                  have hcz123_2 : wc.cell? ⟨gb136, 2, none⟩ = some (.bool x137002_16) := (blk_cell BK136.out 2).trans rfl
                                  have hfz123_0 := blk_frozen BK136.out 0
                                  have hfz123_1 := blk_frozen BK136.out 1
                                  have hfz123_2 := blk_frozen BK136.out 2
                                  have hnb124 := NB128_129.out
                                  have hnc124 := NB129_128.out
                                  have hcz125_0 : wc.cell? ⟨gb128, 0, none⟩ = some (.int .i64 a0_0) := (blk_cell BK128.out 0).trans rfl
                                  have hcz125_1 : wc.cell? ⟨gb128, 1, none⟩ = some (.int .i64 a0_1) := (blk_cell BK128.out 1).trans rfl
                                  have hfz125_0 := blk_frozen BK128.out 0
                                  have hfz125_1 := blk_frozen BK128.out 1
                                  go_wp2_with (first | ((with_reducible refine gate_callee (f := 101) rfl ?_); refine goesL_ (some 103) rfl rfl Try.func101 (by kernel_rfl) rfl #[.agg #[.int .i64 a0_0, .int .i64 a0_1]] rfl (by (try simp only [List.map_toArray, List.map_cons, List.map_nil]); first | done | rfl | (simp only [List.length_drop, List.length_take]; rfl)) ?_; (with_reducible refine (ratchetref04_Format_bias.calls a0_0 a0_1 t144 _ A115.out).mono ?_); rintro e w126 ⟨rfl, hb⟩; refine ⟨_, rfl, ?_⟩; have n0_ := Aside0.mk (blk_below (g := gb128) (o := .cells #[.int .i64 a0_0, .int .i64 a0_1] 56 (0, 0)) (by (with_reducible repeat (first | refine blk_drewN ?_ _ | refine blk_drew ?_ | refine blk_alloc ?_ _)); exact BK128.out) hb); have n1_ := Aside0.mk (blk_below (g := gb129) (o := .cells #[.int .u64 a2_0, .int .u64 a2_1, .bool a2_2] 97 (0, 0)) (by (with_reducible repeat (first | refine blk_drewN ?_ _ | refine blk_drew ?_ | refine blk_alloc ?_ _)); exact BK129.out) hb); have n2_ := Aside0.mk (blk_below (g := gb136) (o := .cells #[.int .u64 x137000_16, .int .u64 x137001_95, .bool x137002_16] 97 (0, 0)) (by (with_reducible repeat (first | refine blk_drewN ?_ _ | refine blk_drew ?_ | refine blk_alloc ?_ _)); exact BK136.out) hb); have n3_ := Aside0.mk (below_step (by repeat (first | (with_reducible first | exact HB.out | apply below_alloc | apply pw_below_drewN | apply below_drew1 | refine below_set ?_ GE128.out | refine below_set ?_ GE129.out | refine below_set ?_ GE136.out) | exact HB.out)) hb); clear BK128; clear BK129; clear BK136; clear HB; have BK128 := n0_; have BK129 := n1_; have BK136 := n2_; have HB := n3_; clear n0_ n1_ n2_ n3_; (try clear hb); (try clear hb2); (try clear hk); (try clear hi); have hcz127_0 : w126.cell? ⟨gb128, 0, none⟩ = some (.int .i64 a0_0) := (blk_cell BK128.out 0).trans rfl; have hcz127_1 : w126.cell? ⟨gb128, 1, none⟩ = some (.int .i64 a0_1) := (blk_cell BK128.out 1).trans rfl; have hfz127_0 := blk_frozen BK128.out 0; have hfz127_1 := blk_frozen BK128.out 1) | ((with_reducible refine gate_callee (f := 67) rfl ?_); refine goesL_ (some 114) rfl rfl Try.func67 (by kernel_rfl) rfl #[.agg #[.int .i64 a0_0, .int .i64 a0_1]] rfl (by (try simp only [List.map_toArray, List.map_cons, List.map_nil]); first | done | rfl | (simp only [List.length_drop, List.length_take]; rfl)) ?_; (with_reducible refine (ratchetref04_Format_inf.calls a0_0 a0_1 t145 _ A120.out).mono ?_); rintro e w128 ⟨rfl, hb⟩; refine ⟨_, rfl, ?_⟩; have n0_ := Aside0.mk (blk_below (g := gb128) (o := .cells #[.int .i64 a0_0, .int .i64 a0_1] 56 (0, 0)) (by (with_reducible repeat (first | refine blk_drewN ?_ _ | refine blk_drew ?_ | refine blk_alloc ?_ _)); exact BK128.out) hb); have n1_ := Aside0.mk (blk_below (g := gb129) (o := .cells #[.int .u64 a2_0, .int .u64 a2_1, .bool a2_2] 97 (0, 0)) (by (with_reducible repeat (first | refine blk_drewN ?_ _ | refine blk_drew ?_ | refine blk_alloc ?_ _)); exact BK129.out) hb); have n2_ := Aside0.mk (blk_below (g := gb136) (o := .cells #[.int .u64 x137000_16, .int .u64 x137001_95, .bool x137002_16] 97 (0, 0)) (by (with_reducible repeat (first | refine blk_drewN ?_ _ | refine blk_drew ?_ | refine blk_alloc ?_ _)); exact BK136.out) hb); have n3_ := Aside0.mk (below_step (by repeat (first | (with_reducible first | exact HB.out | apply below_alloc | apply pw_below_drewN | apply below_drew1 | refine below_set ?_ GE128.out | refine below_set ?_ GE129.out | refine below_set ?_ GE136.out) | exact HB.out)) hb); clear BK128; clear BK129; clear BK136; clear HB; have BK128 := n0_; have BK129 := n1_; have BK136 := n2_; have HB := n3_; clear n0_ n1_ n2_ n3_; (try clear hb); (try clear hb2); (try clear hk); (try clear hi)))
                                  go_ret
                                  exact ⟨by first | rfl | (simp [errW_none, errW_some] <;> rfl) | (simp only [← hji15, ← hji93, ← hji95, ← hji106, ← hji108, ← hji116, ← hji118]; first | rfl | (simp [errW_none, errW_some] <;> rfl)) | (simp [*, errW_none, errW_some] <;> rfl), by repeat (first | (with_reducible first | exact HB.out | apply below_alloc | apply pw_below_drewN | apply below_drew1 | refine below_set ?_ GE128.out | refine below_set ?_ GE129.out | refine below_set ?_ GE136.out) | exact HB.out)⟩
                                · rw [if_neg c119] at H
                                  have c119b0 : decide ((wrap64 ((ji118) - 1)) ≤ (wrap64 (x3_95 + t144))) = false := decide_eq_false c119
                                  clear c119
                                  have c129b0 := eq_true (of_decide_eq_true (by first | (with_reducible assumption) | assumption) : 0 ≤ (ji106))
                                  obtain ⟨ji130, hji130⟩ : ∃ j_ : Int, (shl .u64 (IntKind.u64.wrap (wrap64 (x3_95 + t144))) (ji106)) = j_ := ⟨_, rfl⟩
                                  replace H : (some (IntKind.u64.wrap ((IntKind.u64.wrap ((IntKind.u64.wrap (x9_4 + (ji130))) + x137001_95)) - (shl .u64 1 (ji106))))) = some r := by first | (rw [hji130] at H; exact H) | (simp only [hji130] at H ⊢; exact H)
                                  (try rw [hji130] at A115)
                                  have hji130_ : (IntKind.u64.wrap ((IntKind.u64.wrap (wrap64 (x3_95 + t144))) * 2 ^ min (ji106).toNat 64)) = ji130 := hji130
                                  have hji130z : (ji106) ≤ 64 → (IntKind.u64.wrap ((IntKind.u64.wrap (wrap64 (x3_95 + t144))) * 2 ^ (ji106).toNat)) = ji130 := shl_small hji130
                                  have c131b0 := eq_true (of_decide_eq_true (by first | (with_reducible assumption) | assumption) : 0 ≤ (ji106))
                                  obtain ⟨ji132, hji132⟩ : ∃ j_ : Int, (shl .u64 1 (ji106)) = j_ := ⟨_, rfl⟩
                                  replace H : (some (IntKind.u64.wrap ((IntKind.u64.wrap ((IntKind.u64.wrap (x9_4 + (ji130))) + x137001_95)) - (ji132)))) = some r := by first | (rw [hji132] at H; exact H) | (simp only [hji132] at H ⊢; exact H)
                                  (try rw [hji132] at A115)
                                  have hji132_ : (IntKind.u64.wrap (1 * 2 ^ min (ji106).toNat 64)) = ji132 := hji132
                                  have hji132z : (ji106) ≤ 64 → (IntKind.u64.wrap (1 * 2 ^ (ji106).toNat)) = ji132 := shl_small hji132
                                  have hji132u : (IntKind.u64.wrap (2 ^ min (ji106).toNat 64)) = ji132 := by have h_ := hji132_; rw [Int.one_mul] at h_; exact h_
                                  have hji132v : (ji106) ≤ 64 → (IntKind.u64.wrap (2 ^ (ji106).toNat)) = ji132 := fun hle_ => by have h_ := hji132z hle_; rw [Int.one_mul] at h_; exact h_
                                  obtain rfl := Option.some.inj H
                                  have hnb133 := NB136_128.out
                                  have hnc133 := NB128_136.out
                                  have hnb134 := NB136_129.out
                                  have hnc134 := NB129_136.out
                                  have hcz135_0 : wc.cell? ⟨gb136, 0, none⟩ = some (.int .u64 x137000_16) := (blk_cell BK136.out 0).trans rfl
                                  have hcz135_1 : wc.cell? ⟨gb136, 1, none⟩ = some (.int .u64 x137001_95) := (blk_cell BK136.out 1).trans rfl
                                  have hcz135_2 : wc.cell? ⟨gb136, 2, none⟩ = some (.bool x137002_16) := (blk_cell BK136.out 2).trans rfl
                                  have hfz135_0 := blk_frozen BK136.out 0
                                  have hfz135_1 := blk_frozen BK136.out 1
                                  have hfz135_2 := blk_frozen BK136.out 2
                                  have hnb136 := NB128_129.out
                                  have hnc136 := NB129_128.out
                                  have hcz137_0 : wc.cell? ⟨gb128, 0, none⟩ = some (.int .i64 a0_0) := (blk_cell BK128.out 0).trans rfl
                                  have hcz137_1 : wc.cell? ⟨gb128, 1, none⟩ = some (.int .i64 a0_1) := (blk_cell BK128.out 1).trans rfl
                                  have hfz137_0 := blk_frozen BK128.out 0
                                  have hfz137_1 := blk_frozen BK128.out 1
                                  go_wp2_with (first | ((with_reducible refine gate_callee (f := 101) rfl ?_); refine goesL_ (some 103) rfl rfl Try.func101 (by kernel_rfl) rfl #[.agg #[.int .i64 a0_0, .int .i64 a0_1]] rfl (by (try simp only [List.map_toArray, List.map_cons, List.map_nil]); first | done | rfl | (simp only [List.length_drop, List.length_take]; rfl)) ?_; (with_reducible refine (ratchetref04_Format_bias.calls a0_0 a0_1 t144 _ A115.out).mono ?_); rintro e w138 ⟨rfl, hb⟩; refine ⟨_, rfl, ?_⟩; have n0_ := Aside0.mk (blk_below (g := gb128) (o := .cells #[.int .i64 a0_0, .int .i64 a0_1] 56 (0, 0)) (by (with_reducible repeat (first | refine blk_drewN ?_ _ | refine blk_drew ?_ | refine blk_alloc ?_ _)); exact BK128.out) hb); have n1_ := Aside0.mk (blk_below (g := gb129) (o := .cells #[.int .u64 a2_0, .int .u64 a2_1, .bool a2_2] 97 (0, 0)) (by (with_reducible repeat (first | refine blk_drewN ?_ _ | refine blk_drew ?_ | refine blk_alloc ?_ _)); exact BK129.out) hb); have n2_ := Aside0.mk (blk_below (g := gb136) (o := .cells #[.int .u64 x137000_16, .int .u64 x137001_95, .bool x137002_16] 97 (0, 0)) (by (with_reducible repeat (first | refine blk_drewN ?_ _ | refine blk_drew ?_ | refine blk_alloc ?_ _)); exact BK136.out) hb); have n3_ := Aside0.mk (below_step (by repeat (first | (with_reducible first | exact HB.out | apply below_alloc | apply pw_below_drewN | apply below_drew1 | refine below_set ?_ GE128.out | refine below_set ?_ GE129.out | refine below_set ?_ GE136.out) | exact HB.out)) hb); clear BK128; clear BK129; clear BK136; clear HB; have BK128 := n0_; have BK129 := n1_; have BK136 := n2_; have HB := n3_; clear n0_ n1_ n2_ n3_; (try clear hb); (try clear hb2); (try clear hk); (try clear hi); have hcz139_0 : w138.cell? ⟨gb128, 0, none⟩ = some (.int .i64 a0_0) := (blk_cell BK128.out 0).trans rfl; have hcz139_1 : w138.cell? ⟨gb128, 1, none⟩ = some (.int .i64 a0_1) := (blk_cell BK128.out 1).trans rfl; have hfz139_0 := blk_frozen BK128.out 0; have hfz139_1 := blk_frozen BK128.out 1; have hcz140_0 : w138.cell? ⟨gb136, 0, none⟩ = some (.int .u64 x137000_16) := (blk_cell BK136.out 0).trans rfl; have hcz140_1 : w138.cell? ⟨gb136, 1, none⟩ = some (.int .u64 x137001_95) := (blk_cell BK136.out 1).trans rfl; have hcz140_2 : w138.cell? ⟨gb136, 2, none⟩ = some (.bool x137002_16) := (blk_cell BK136.out 2).trans rfl; have hfz140_0 := blk_frozen BK136.out 0; have hfz140_1 := blk_frozen BK136.out 1; have hfz140_2 := blk_frozen BK136.out 2))
                                  go_ret
                                  exact ⟨by first | rfl | (simp [errW_none, errW_some] <;> rfl) | (simp only [← hji15, ← hji93, ← hji95, ← hji106, ← hji108, ← hji116, ← hji118, ← hji130, ← hji132]; first | rfl | (simp [errW_none, errW_some] <;> rfl)) | (simp [*, errW_none, errW_some] <;> rfl), by repeat (first | (with_reducible first | exact HB.out | apply below_alloc | apply pw_below_drewN | apply below_drew1 | refine below_set ?_ GE128.out | refine below_set ?_ GE129.out | refine below_set ?_ GE136.out) | exact HB.out)⟩
                              · rw [if_neg c117] at H
                                exact absurd H (by simp)
                          · rw [if_neg c107] at H
                            exact absurd H (by simp)
                    · rw [if_neg c94] at H
                      exact absurd H (by simp)

end Go.Proofs.Ytapfapngcncaeaa.QF
