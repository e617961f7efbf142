/- Parts of the proof of canonUnrolled_holds (15 of 17): what it says and shows stands at its declarations. -/
import Derived.Test.YtfgglniigeagdaaDoorZUr14
import Derived.LoopTactic
namespace Go.Proofs.YtfgglniigeagdaaDoor.QD
open Go.RowKit Go.Proofs.YtfgglniigeagdaaDoorW.PrintWords Go.Proofs.YtfgglniigeagdaaDoorW.PrintLast Go.Proofs.YtfgglniigeagdaaDoorW.PrintMore
attribute [local go_sem] max2_int min2_int max_two min_two max_three min_three max_four min_four 
set_option linter.unusedVariables false
set_option linter.unusedSimpArgs false
mutual
def ratchetref05_fine.l0 : Nat → Int → Int → Bool → List Int → Int → List (S74) → List (S74) → List (S118) → Option (Bool)
  | 0, _, _, _, _, _, _, _, _ => none
  | k + 1, x1, x5, x160000, x160001, x160002, x160003, x160004, x160005 => if x5 < (x160001.length : Int) then (if 0 ≤ x5 then (if (rd x160001 x5) < 0 then (some false) else (if (rd x160001 x5) ≥ x1 then (some false) else (ratchetref05_fine.l0 k x1 (wrap64 (x5 + 1)) x160000 x160001 x160002 x160003 x160004 x160005))) else (none)) else ((ratchetref05_All.f k x160000 x160001 x160002 x160003 x160004 x160005).bind fun t162 => (ratchetref05_fine.l1 k x1 t162 0))
def ratchetref05_fine.l1 : Nat → Int → List Int → Int → Option (Bool)
  | 0, _, _, _ => none
  | k + 1, x1, x6, x7 => if x7 < (x6.length : Int) then (if 0 ≤ x7 then (if (rd x6 x7) ≥ x1 then (some false) else (if (rd x6 x7) < (-12) then (some false) else (ratchetref05_fine.l1 k x1 x6 (wrap64 (x7 + 1))))) else (none)) else (some true)
end
def ratchetref05_fine.f (k : Nat) (a0_0 : Bool) (l0_1 : List Int) (a0_2 : Int) (l0_3 : List (S74)) (l0_4 : List (S74)) (l0_5 : List (S118)) (a1 : Int) : Option (Bool) := ratchetref05_fine.l0 k a1 0 a0_0 l0_1 a0_2 l0_3 l0_4 l0_5
theorem ratchetref05_fine.mono_l : ∀ k, (∀ y0 y1 y2 y3 y4 y5 y6 y7, LeO (ratchetref05_fine.l0 k y0 y1 y2 y3 y4 y5 y6 y7) (ratchetref05_fine.l0 (k + 1) y0 y1 y2 y3 y4 y5 y6 y7)) ∧ (∀ y0 y1 y2, LeO (ratchetref05_fine.l1 k y0 y1 y2) (ratchetref05_fine.l1 (k + 1) y0 y1 y2))
  | 0 => ⟨fun _ _ _ _ _ _ _ _ r h => by simp [ratchetref05_fine.l0] at h, fun _ _ _ r h => by simp [ratchetref05_fine.l1] at h⟩
  | k + 1 => by
    obtain ⟨ih0, ih1⟩ := ratchetref05_fine.mono_l k
    refine ⟨?_, ?_⟩
    · intro y0 y1 y2 y3 y4 y5 y6 y7
      unfold ratchetref05_fine.l0
      repeat' first
      | (with_reducible exact ih0 _ _ _ _ _ _ _ _)
      | (with_reducible exact ih1 _ _ _)
      | (with_reducible exact ratchetref05_All.mono _ _ _ _ _ _ _)
      | (with_reducible exact LeO.refl _)
      | (with_reducible exact LeO.none _)
      | (with_reducible refine LeO.ite ?_ ?_)
      | (with_reducible refine LeO.bind ?_ (fun _ => ?_))
      | exact ih0 _ _ _ _ _ _ _ _
      | exact ih1 _ _ _
      | exact ratchetref05_All.mono _ _ _ _ _ _ _
      | exact LeO.none _
      | refine LeO.ite ?_ ?_
      | refine LeO.bind ?_ (fun _ => ?_)
    · intro y0 y1 y2
      unfold ratchetref05_fine.l1
      repeat' first
      | (with_reducible exact ih0 _ _ _ _ _ _ _ _)
      | (with_reducible exact ih1 _ _ _)
      | (with_reducible exact ratchetref05_All.mono _ _ _ _ _ _ _)
      | (with_reducible exact LeO.refl _)
      | (with_reducible exact LeO.none _)
      | (with_reducible refine LeO.ite ?_ ?_)
      | (with_reducible refine LeO.bind ?_ (fun _ => ?_))
      | exact ih0 _ _ _ _ _ _ _ _
      | exact ih1 _ _ _
      | exact ratchetref05_All.mono _ _ _ _ _ _ _
      | exact LeO.none _
      | refine LeO.ite ?_ ?_
      | refine LeO.bind ?_ (fun _ => ?_)
theorem ratchetref05_fine.mono : ∀ a0 a1 a2 a3 a4 a5 a6 k, LeO (ratchetref05_fine.f k a0 a1 a2 a3 a4 a5 a6) (ratchetref05_fine.f (k + 1) a0 a1 a2 a3 a4 a5 a6) := by
  intro a0 a1 a2 a3 a4 a5 a6 k
  obtain ⟨ih0, ih1⟩ := ratchetref05_fine.mono_l k
  unfold ratchetref05_fine.f
  repeat' first
      | (with_reducible exact ih0 _ _ _ _ _ _ _ _)
      | (with_reducible exact ih1 _ _ _)
      | (with_reducible exact ratchetref05_All.mono _ _ _ _ _ _ _)
      | (with_reducible exact LeO.refl _)
      | (with_reducible exact LeO.none _)
      | (with_reducible refine LeO.ite ?_ ?_)
      | (with_reducible refine LeO.bind ?_ (fun _ => ?_))
      | exact ih0 _ _ _ _ _ _ _ _
      | exact ih1 _ _ _
      | exact ratchetref05_All.mono _ _ _ _ _ _ _
      | exact LeO.none _
      | refine LeO.ite ?_ ?_
      | refine LeO.bind ?_ (fun _ => ?_)
set_option maxHeartbeats 8000000 in
set_option maxRecDepth 100000 in
theorem ratchetref05_fine.calls (k : Nat) (a0_0 : Bool) (A0_1 : Option Addr) (c0_1 : Nat) (l0_1 : List Int) (a0_2 : Int) (A0_3 : Option Addr) (c0_3 : Nat) (l0_3 : List (S74)) (A0_4 : Option Addr) (c0_4 : Nat) (l0_4 : List (S74)) (A0_5 : Option Addr) (c0_5 : Nat) (l0_5 : List (S118)) (a1 : Int) (r : Bool) (w : World) (hr0_1 : Kd.C (Kd.int .i64) w A0_1 l0_1.length l0_1) (hc0_1 : l0_1.length ≤ c0_1) (hr0_3 : Kd.C k74 w A0_3 l0_3.length l0_3) (hc0_3 : l0_3.length ≤ c0_3) (hr0_4 : Kd.C k74 w A0_4 l0_4.length l0_4) (hc0_4 : l0_4.length ≤ c0_4) (hr0_5 : Kd.C k118 w A0_5 l0_5.length l0_5) (hc0_5 : l0_5.length ≤ c0_5) (h : ratchetref05_fine.f k a0_0 l0_1 a0_2 l0_3 l0_4 l0_5 a1 = some r) :
    Calls Tryd.prog 55 #[.agg #[.bool a0_0, .slice A0_1 l0_1.length c0_1, .int .i64 a0_2, .slice A0_3 l0_3.length c0_3, .slice A0_4 l0_4.length c0_4, .slice A0_5 l0_5.length c0_5], .int .i64 a1] w fun e w' => e = .returned (.bool r) ∧ Below w.heap.size w w' := by
  have hu53 := Tryd.underlying53
  have HR0_1 := Aside0.mk hr0_1
  have HC0_1 := Aside0.mk hc0_1
  clear hr0_1 hc0_1
  have HR0_3 := Aside0.mk hr0_3
  have HC0_3 := Aside0.mk hc0_3
  clear hr0_3 hc0_3
  have HR0_4 := Aside0.mk hr0_4
  have HC0_4 := Aside0.mk hc0_4
  clear hr0_4 hc0_4
  have HR0_5 := Aside0.mk hr0_5
  have HC0_5 := Aside0.mk hc0_5
  clear hr0_5 hc0_5
  have HB := Aside0.mk (Below.refl w.heap.size w)
  have H : (ratchetref05_fine.l0 k a1 0 a0_0 l0_1 a0_2 l0_3 l0_4 l0_5) = some r := h
  clear h
  have H' := Aside0.mk H
  clear H
  go_enter Tryd.func55, Tryd.ntmps55
  go_wp2_with (first | ((with_reducible refine gate_dst (N := 2) rfl ?_); refine box_event ?hg (N := 2) ?hd (cs := #[.bool a0_0, .slice A0_1 l0_1.length c0_1, .int .i64 a0_2, .slice A0_3 l0_3.length c0_3, .slice A0_4 l0_4.length c0_4, .slice A0_5 l0_5.length c0_5]) (t := 53) ?hr ?_; (case hd => rfl); (case hg => rfl); (case hr => first | (go_simp; done) | (go_simp; rfl)); intro gb159 hg w3 hbox hb; have n0_ := Aside0.mk (below_step (by repeat (first | (with_reducible first | exact HB.out | apply below_alloc | apply pw_below_drewN | apply below_drew1) | exact HB.out)) hb); have n1_ := Aside0.mk (hbox); have n2_ := Aside0.mk ((by rw [hg]; exact (below_size (by repeat (first | (with_reducible first | exact HB.out | apply below_alloc | apply pw_below_drewN | apply below_drew1) | exact HB.out))) : w.heap.size ≤ gb159)); have n3_ := Aside0.mk ((by rw [hg]; exact (below_size (by repeat (first | (with_reducible first | exact HB.out | apply below_alloc | apply pw_below_drewN | apply below_drew1) | exact HB.out))) : w.heap.size ≤ gb159)); clear HB; have HB := n0_; have BK159 := n1_; have GW159 := n2_; have GE159 := n3_; clear n0_ n1_ n2_ n3_; clear hb hbox hg))
  go_loopg [5] k (fun kq v5 w' => ∃ (x5_1 : Int), v5 = .int .i64 x5_1 ∧ Aside0 (ratchetref05_fine.l0 kq a1 x5_1 a0_0 l0_1 a0_2 l0_3 l0_4 l0_5 = some r) ∧ Aside0 (kq ≤ k) ∧ Aside0 (w'.heap[gb159]? = some (.cells #[.bool a0_0, (.slice A0_1 l0_1.length c0_1), .int .i64 a0_2, (.slice A0_3 l0_3.length c0_3), (.slice A0_4 l0_4.length c0_4), (.slice A0_5 l0_5.length c0_5)] 53 (0, 0))) ∧ Aside0 (Below w.heap.size w w'))
  case atStart => exact ⟨(0), (by first | rfl | (simp; done) | (simp [*]; done)), H', ⟨Nat.le_refl _⟩, ⟨by (with_reducible repeat (first | refine blk_drewN ?_ _ | refine blk_drew ?_ | refine blk_alloc ?_ _)); exact BK159.out⟩, ⟨by repeat (first | (with_reducible first | exact HB.out | apply below_alloc | apply pw_below_drewN | apply below_drew1 | refine below_set ?_ GE159.out) | exact HB.out)⟩⟩
  case round =>
    clear H'
    try clear p2
    obtain ⟨x5_1, rfl, HA, HK1, BK159, HB⟩ := hrel
    cases gk with
    | zero => exact absurd HA.out (by simp [ratchetref05_fine.l0])
    | succ k1 =>
      have H := HA.out
      clear HA
      simp only [ratchetref05_fine.l0] at H
      by_cases c4 : x5_1 < (l0_1.length : Int)
      · rw [if_pos c4] at H
        have c4b0 : decide (x5_1 < (l0_1.length : Int)) = true := decide_eq_true c4
        clear c4
        by_cases c5 : 0 ≤ x5_1
        · rw [if_pos c5] at H
          have c5b0 : decide (0 ≤ x5_1) = true := decide_eq_true c5
          clear c5
          by_cases c6 : (rd l0_1 x5_1) < 0
          · rw [if_pos c6] at H
            have c6b0 : decide ((rd l0_1 x5_1) < 0) = true := decide_eq_true c6
            clear c6
            obtain rfl := Option.some.inj H
            have hcz7_0 : wr.cell? ⟨gb159, 0, none⟩ = some (.bool a0_0) := (blk_cell BK159.out 0).trans rfl
            have hcz7_1 : wr.cell? ⟨gb159, 1, none⟩ = some (.slice A0_1 l0_1.length c0_1) := (blk_cell BK159.out 1).trans rfl
            have hcz7_2 : wr.cell? ⟨gb159, 2, none⟩ = some (.int .i64 a0_2) := (blk_cell BK159.out 2).trans rfl
            have hcz7_3 : wr.cell? ⟨gb159, 3, none⟩ = some (.slice A0_3 l0_3.length c0_3) := (blk_cell BK159.out 3).trans rfl
            have hcz7_4 : wr.cell? ⟨gb159, 4, none⟩ = some (.slice A0_4 l0_4.length c0_4) := (blk_cell BK159.out 4).trans rfl
            have hcz7_5 : wr.cell? ⟨gb159, 5, none⟩ = some (.slice A0_5 l0_5.length c0_5) := (blk_cell BK159.out 5).trans rfl
            have hfz7_0 := blk_frozen BK159.out 0
            have hfz7_1 := blk_frozen BK159.out 1
            have hfz7_2 := blk_frozen BK159.out 2
            have hfz7_3 := blk_frozen BK159.out 3
            have hfz7_4 := blk_frozen BK159.out 4
            have hfz7_5 := blk_frozen BK159.out 5
            have p160 : 0 ≤ (x5_1 : Int) := of_decide_eq_true (by first | (with_reducible assumption) | assumption)
            have q160 : x5_1 < (l0_1.length : Int) := of_decide_eq_true (by first | (with_reducible assumption) | assumption)
            obtain ⟨ad160, e160, hx160_0⟩ := Kd.at_int HR0_1.out x5_1 p160 q160
            cases e160
            replace hx160_0 := (HB.out.cell (World.block_lt_of_cell? w _ hx160_0)).trans hx160_0
            replace p160 := eq_true p160
            replace q160 := eq_true q160
            go_wp2
            go_ret
            exact ⟨by first | rfl | (simp [errW_none, errW_some] <;> rfl) | (simp [*, errW_none, errW_some] <;> rfl), by repeat (first | (with_reducible first | exact HB.out | apply below_alloc | apply pw_below_drewN | apply below_drew1 | refine below_set ?_ GE159.out) | exact HB.out)⟩
          · rw [if_neg c6] at H
            have c6b0 : decide ((rd l0_1 x5_1) < 0) = false := decide_eq_false c6
            clear c6
            by_cases c8 : (rd l0_1 x5_1) ≥ a1
            · rw [if_pos c8] at H
              have c8b0 : decide (a1 ≤ (rd l0_1 x5_1)) = true := decide_eq_true c8
              clear c8
              obtain rfl := Option.some.inj H
              have hcz9_0 : wr.cell? ⟨gb159, 0, none⟩ = some (.bool a0_0) := (blk_cell BK159.out 0).trans rfl
              have hcz9_1 : wr.cell? ⟨gb159, 1, none⟩ = some (.slice A0_1 l0_1.length c0_1) := (blk_cell BK159.out 1).trans rfl
              have hcz9_2 : wr.cell? ⟨gb159, 2, none⟩ = some (.int .i64 a0_2) := (blk_cell BK159.out 2).trans rfl
              have hcz9_3 : wr.cell? ⟨gb159, 3, none⟩ = some (.slice A0_3 l0_3.length c0_3) := (blk_cell BK159.out 3).trans rfl
              have hcz9_4 : wr.cell? ⟨gb159, 4, none⟩ = some (.slice A0_4 l0_4.length c0_4) := (blk_cell BK159.out 4).trans rfl
              have hcz9_5 : wr.cell? ⟨gb159, 5, none⟩ = some (.slice A0_5 l0_5.length c0_5) := (blk_cell BK159.out 5).trans rfl
              have hfz9_0 := blk_frozen BK159.out 0
              have hfz9_1 := blk_frozen BK159.out 1
              have hfz9_2 := blk_frozen BK159.out 2
              have hfz9_3 := blk_frozen BK159.out 3
              have hfz9_4 := blk_frozen BK159.out 4
              have hfz9_5 := blk_frozen BK159.out 5
              have p160 : 0 ≤ (x5_1 : Int) := of_decide_eq_true (by first | (with_reducible assumption) | assumption)
              have q160 : x5_1 < (l0_1.length : Int) := of_decide_eq_true (by first | (with_reducible assumption) | assumption)
              obtain ⟨ad160, e160, hx160_0⟩ := Kd.at_int HR0_1.out x5_1 p160 q160
              cases e160
              replace hx160_0 := (HB.out.cell (World.block_lt_of_cell? w _ hx160_0)).trans hx160_0
              replace p160 := eq_true p160
              replace q160 := eq_true q160
              have p161 : 0 ≤ (x5_1 : Int) := of_decide_eq_true (by first | (with_reducible assumption) | assumption)
              have q161 : x5_1 < (l0_1.length : Int) := of_decide_eq_true (by first | (with_reducible assumption) | assumption)
              obtain ⟨ad161, e161, hx161_0⟩ := Kd.at_int HR0_1.out x5_1 p161 q161
              obtain rfl : ad160 = ad161 := (by injection e161)
              replace hx161_0 := (HB.out.cell (World.block_lt_of_cell? w _ hx161_0)).trans hx161_0
              replace p161 := eq_true p161
              replace q161 := eq_true q161
              go_wp2
              go_ret
              exact ⟨by first | rfl | (simp [errW_none, errW_some] <;> rfl) | (simp [*, errW_none, errW_some] <;> rfl), by repeat (first | (with_reducible first | exact HB.out | apply below_alloc | apply pw_below_drewN | apply below_drew1 | refine below_set ?_ GE159.out) | exact HB.out)⟩
            · rw [if_neg c8] at H
              have c8b0 : decide (a1 ≤ (rd l0_1 x5_1)) = false := decide_eq_false c8
              clear c8
              have H' := Aside0.mk H
              clear H
              have hcz10_0 : wr.cell? ⟨gb159, 0, none⟩ = some (.bool a0_0) := (blk_cell BK159.out 0).trans rfl
              have hcz10_1 : wr.cell? ⟨gb159, 1, none⟩ = some (.slice A0_1 l0_1.length c0_1) := (blk_cell BK159.out 1).trans rfl
              have hcz10_2 : wr.cell? ⟨gb159, 2, none⟩ = some (.int .i64 a0_2) := (blk_cell BK159.out 2).trans rfl
              have hcz10_3 : wr.cell? ⟨gb159, 3, none⟩ = some (.slice A0_3 l0_3.length c0_3) := (blk_cell BK159.out 3).trans rfl
              have hcz10_4 : wr.cell? ⟨gb159, 4, none⟩ = some (.slice A0_4 l0_4.length c0_4) := (blk_cell BK159.out 4).trans rfl
              have hcz10_5 : wr.cell? ⟨gb159, 5, none⟩ = some (.slice A0_5 l0_5.length c0_5) := (blk_cell BK159.out 5).trans rfl
              have hfz10_0 := blk_frozen BK159.out 0
              have hfz10_1 := blk_frozen BK159.out 1
              have hfz10_2 := blk_frozen BK159.out 2
              have hfz10_3 := blk_frozen BK159.out 3
              have hfz10_4 := blk_frozen BK159.out 4
              have hfz10_5 := blk_frozen BK159.out 5
              have p160 : 0 ≤ (x5_1 : Int) := of_decide_eq_true (by first | (with_reducible assumption) | assumption)
              have q160 : x5_1 < (l0_1.length : Int) := of_decide_eq_true (by first | (with_reducible assumption) | assumption)
              obtain ⟨ad160, e160, hx160_0⟩ := Kd.at_int HR0_1.out x5_1 p160 q160
              cases e160
              replace hx160_0 := (HB.out.cell (World.block_lt_of_cell? w _ hx160_0)).trans hx160_0
              replace p160 := eq_true p160
              replace q160 := eq_true q160
              have p161 : 0 ≤ (x5_1 : Int) := of_decide_eq_true (by first | (with_reducible assumption) | assumption)
              have q161 : x5_1 < (l0_1.length : Int) := of_decide_eq_true (by first | (with_reducible assumption) | assumption)
              obtain ⟨ad161, e161, hx161_0⟩ := Kd.at_int HR0_1.out x5_1 p161 q161
              obtain rfl : ad160 = ad161 := (by injection e161)
              replace hx161_0 := (HB.out.cell (World.block_lt_of_cell? w _ hx161_0)).trans hx161_0
              replace p161 := eq_true p161
              replace q161 := eq_true q161
              go_wp2
              go_roundg k1
              case measure => have := HK1.out; omega
              case rel => exact ⟨(wrap64 (x5_1 + 1)), (by first | rfl | (simp; done) | (simp [*]; done)), H', ⟨by have := HK1.out; omega⟩, ⟨by (with_reducible repeat (first | refine blk_drewN ?_ _ | refine blk_drew ?_ | refine blk_alloc ?_ _)); exact BK159.out⟩, ⟨by repeat (first | (with_reducible first | exact HB.out | apply below_alloc | apply pw_below_drewN | apply below_drew1 | refine below_set ?_ GE159.out) | exact HB.out)⟩⟩
        · rw [if_neg c5] at H
          exact absurd H (by simp)
      · rw [if_neg c4] at H
        have c4b0 : decide (x5_1 < (l0_1.length : Int)) = false := decide_eq_false c4
        clear c4
        replace H := Option.bind_eq_some_iff.mp H
        obtain ⟨t162, A110, H⟩ := H
        replace H : (ratchetref05_fine.l1 k1 a1 t162 0) = some r := H
        have A11 := Aside0.mk A110
        clear A110
        have H' := Aside0.mk H
        clear H
        have hcz12_0 : wr.cell? ⟨gb159, 0, none⟩ = some (.bool a0_0) := (blk_cell BK159.out 0).trans rfl
        have hcz12_1 : wr.cell? ⟨gb159, 1, none⟩ = some (.slice A0_1 l0_1.length c0_1) := (blk_cell BK159.out 1).trans rfl
        have hcz12_2 : wr.cell? ⟨gb159, 2, none⟩ = some (.int .i64 a0_2) := (blk_cell BK159.out 2).trans rfl
        have hcz12_3 : wr.cell? ⟨gb159, 3, none⟩ = some (.slice A0_3 l0_3.length c0_3) := (blk_cell BK159.out 3).trans rfl
        have hcz12_4 : wr.cell? ⟨gb159, 4, none⟩ = some (.slice A0_4 l0_4.length c0_4) := (blk_cell BK159.out 4).trans rfl
        have hcz12_5 : wr.cell? ⟨gb159, 5, none⟩ = some (.slice A0_5 l0_5.length c0_5) := (blk_cell BK159.out 5).trans rfl
        have hfz12_0 := blk_frozen BK159.out 0
        have hfz12_1 := blk_frozen BK159.out 1
        have hfz12_2 := blk_frozen BK159.out 2
        have hfz12_3 := blk_frozen BK159.out 3
        have hfz12_4 := blk_frozen BK159.out 4
        have hfz12_5 := blk_frozen BK159.out 5
        go_wp2_with (first | ((with_reducible refine gate_callee (f := 73) rfl ?_); refine goesL_ (some 31) rfl rfl Tryd.func73 (by kernel_rfl) rfl #[.agg #[.bool a0_0, .slice A0_1 l0_1.length c0_1, .int .i64 a0_2, .slice A0_3 l0_3.length c0_3, .slice A0_4 l0_4.length c0_4, .slice A0_5 l0_5.length c0_5]] rfl (by (try simp only [List.map_toArray, List.map_cons, List.map_nil]); first | done | rfl | (simp only [List.length_drop, List.length_take]; rfl)) ?_; (with_reducible refine (ratchetref05_All.calls k1 a0_0 _ _ l0_1 a0_2 _ _ l0_3 _ _ l0_4 _ _ l0_5 t162 _ ?side1 ?side2 ?side3 ?side4 ?side5 ?side6 ?side7 ?side8 A11.out).mono ?_); (case side1 => repeat (first | exact (Kd.C_below HR0_1.out HB.out) | (with_reducible refine Kd.C_alloc ?_ _) | (with_reducible refine Kd.C_drewN ?_ _) | (with_reducible refine Kd.C_drew ?_))); (case side2 => exact HC0_1.out); (case side3 => repeat (first | exact (Kd.C_below HR0_3.out HB.out) | (with_reducible refine Kd.C_alloc ?_ _) | (with_reducible refine Kd.C_drewN ?_ _) | (with_reducible refine Kd.C_drew ?_))); (case side4 => exact HC0_3.out); (case side5 => repeat (first | exact (Kd.C_below HR0_4.out HB.out) | (with_reducible refine Kd.C_alloc ?_ _) | (with_reducible refine Kd.C_drewN ?_ _) | (with_reducible refine Kd.C_drew ?_))); (case side6 => exact HC0_4.out); (case side7 => repeat (first | exact (Kd.C_below HR0_5.out HB.out) | (with_reducible refine Kd.C_alloc ?_ _) | (with_reducible refine Kd.C_drewN ?_ _) | (with_reducible refine Kd.C_drew ?_))); (case side8 => exact HC0_5.out); rintro e w13 ⟨v163, rfl, ho0, hb⟩; refine ⟨_, rfl, ?_⟩; have n0_ := Aside0.mk (Kd.R_lower ho0 (below_size (by repeat (first | (with_reducible first | exact HB.out | apply below_alloc | apply pw_below_drewN | apply below_drew1 | refine below_set ?_ GE159.out) | exact HB.out)))); have n1_ := Aside0.mk (blk_below (g := gb159) (o := .cells #[.bool a0_0, .slice A0_1 l0_1.length c0_1, .int .i64 a0_2, .slice A0_3 l0_3.length c0_3, .slice A0_4 l0_4.length c0_4, .slice A0_5 l0_5.length c0_5] 53 (0, 0)) (by (with_reducible repeat (first | refine blk_drewN ?_ _ | refine blk_drew ?_ | refine blk_alloc ?_ _)); exact BK159.out) hb); have n2_ := Aside0.mk (below_step (by repeat (first | (with_reducible first | exact HB.out | apply below_alloc | apply pw_below_drewN | apply below_drew1 | refine below_set ?_ GE159.out) | exact HB.out)) hb); clear BK159; clear HB; have HO164 := n0_; have BK159 := n1_; have HB := n2_; clear n0_ n1_ n2_; (try clear hb); (try clear hb2); (try clear hk); (try clear hi); (try clear ho0)))
        go_loopg [7] k1 (fun kq v7 w' => ∃ (x7_2 : Int), v7 = .int .i64 x7_2 ∧ Aside0 (ratchetref05_fine.l1 kq a1 t162 x7_2 = some r) ∧ Aside0 (kq ≤ k1) ∧ Aside0 (Kd.R (Kd.int .i64) 3 w' w.heap.size (fun _ => True) v163 t162) ∧ Aside0 (w'.heap[gb159]? = some (.cells #[.bool a0_0, (.slice A0_1 l0_1.length c0_1), .int .i64 a0_2, (.slice A0_3 l0_3.length c0_3), (.slice A0_4 l0_4.length c0_4), (.slice A0_5 l0_5.length c0_5)] 53 (0, 0))) ∧ Aside0 (Below w.heap.size w w'))
        case atStart => exact ⟨(0), (by first | rfl | (simp; done) | (simp [*]; done)), H', ⟨Nat.le_refl _⟩, ⟨by (with_reducible repeat (first | apply Kd.R_alloc | apply Kd.R_drewN | apply Kd.R_drew)); exact HO164.out⟩, ⟨by (with_reducible repeat (first | refine blk_drewN ?_ _ | refine blk_drew ?_ | refine blk_alloc ?_ _)); exact BK159.out⟩, ⟨by repeat (first | (with_reducible first | exact HB.out | apply below_alloc | apply pw_below_drewN | apply below_drew1 | refine below_set ?_ GE159.out) | exact HB.out)⟩⟩
        case round =>
          clear H'
          try clear p1
          try clear q1
          try clear hx1
          try clear p2
          try clear c4
          try clear c4b0
          try clear c5
          try clear c5b0
          try clear c6
          try clear c6b0
          try clear p6
          try clear c7
          try clear c8
          try clear c8b0
          try clear hcz10_0
          try clear hcz10_1
          try clear hcz10_2
          try clear hcz10_3
          try clear hcz10_4
          try clear hcz10_5
          try clear hcz12_0
          try clear hcz12_1
          try clear hcz12_2
          try clear hcz12_3
          try clear hcz12_4
          try clear hcz12_5
          try clear hcz7_0
          try clear hcz7_1
          try clear hcz7_2
          try clear hcz7_3
          try clear hcz7_4
          try clear hcz7_5
          try clear hcz9_0
          try clear hcz9_1
          try clear hcz9_2
          try clear hcz9_3
          try clear hcz9_4
          try clear hcz9_5
          try clear hfz10_0
          try clear hfz10_1
          try clear hfz10_2
          try clear hfz10_3
          try clear hfz10_4
          try clear hfz10_5
          try clear hfz12_0
          try clear hfz12_1
          try clear hfz12_2
          try clear hfz12_3
          try clear hfz12_4
          try clear hfz12_5
          try clear hfz7_0
          try clear hfz7_1
          try clear hfz7_2
          try clear hfz7_3
          try clear hfz7_4
          try clear hfz7_5
          try clear hfz9_0
          try clear hfz9_1
          try clear hfz9_2
          try clear hfz9_3
          try clear hfz9_4
          try clear hfz9_5
          try clear hx160_0
          try clear hx161_0
          try clear p160
          try clear p161
          try clear p2
          try clear q160
          try clear q161
          obtain ⟨x7_2, rfl, HA, HK2, HO_6, BK159, HB⟩ := hrel
          cases gk with
          | zero => exact absurd HA.out (by simp [ratchetref05_fine.l1])
          | succ k2 =>
            have H := HA.out
            clear HA
            simp only [ratchetref05_fine.l1] at H
            by_cases c14 : x7_2 < (t162.length : Int)
            · rw [if_pos c14] at H
              have c14b0 : decide (x7_2 < (t162.length : Int)) = true := decide_eq_true c14
              clear c14
              by_cases c15 : 0 ≤ x7_2
              · rw [if_pos c15] at H
                have c15b0 : decide (0 ≤ x7_2) = true := decide_eq_true c15
                clear c15
                by_cases c16 : (rd t162 x7_2) ≥ a1
                · rw [if_pos c16] at H
                  have c16b0 : decide (a1 ≤ (rd t162 x7_2)) = true := decide_eq_true c16
                  clear c16
                  obtain rfl := Option.some.inj H
                  obtain ⟨Ao17, co17, eo17⟩ := Kd.R_slice HO_6.out
                  subst eo17
                  have p165 : 0 ≤ (x7_2 : Int) := of_decide_eq_true (by first | (with_reducible assumption) | assumption)
                  have q165 : x7_2 < (t162.length : Int) := of_decide_eq_true (by first | (with_reducible assumption) | assumption)
                  obtain ⟨ad165, e165, hx165_0⟩ := Kd.at_int (Kd.R_reads' HO_6.out).2.2 x7_2 p165 q165
                  cases e165
                  replace p165 := eq_true p165
                  replace q165 := eq_true q165
                  go_wp2
                  go_ret
                  exact ⟨by first | rfl | (simp [errW_none, errW_some] <;> rfl) | (simp [*, errW_none, errW_some] <;> rfl), by repeat (first | (with_reducible first | exact HB.out | apply below_alloc | apply pw_below_drewN | apply below_drew1 | refine below_set ?_ GE159.out) | exact HB.out)⟩
                · rw [if_neg c16] at H
                  have c16b0 : decide (a1 ≤ (rd t162 x7_2)) = false := decide_eq_false c16
                  clear c16
                  by_cases c18 : (rd t162 x7_2) < (-12)
                  · rw [if_pos c18] at H
                    have c18b0 : decide ((rd t162 x7_2) < (-12)) = true := decide_eq_true c18
                    clear c18
                    obtain rfl := Option.some.inj H
                    obtain ⟨Ao19, co19, eo19⟩ := Kd.R_slice HO_6.out
                    subst eo19
                    have p165 : 0 ≤ (x7_2 : Int) := of_decide_eq_true (by first | (with_reducible assumption) | assumption)
                    have q165 : x7_2 < (t162.length : Int) := of_decide_eq_true (by first | (with_reducible assumption) | assumption)
                    obtain ⟨ad165, e165, hx165_0⟩ := Kd.at_int (Kd.R_reads' HO_6.out).2.2 x7_2 p165 q165
                    cases e165
                    replace p165 := eq_true p165
                    replace q165 := eq_true q165
                    have p166 : 0 ≤ (x7_2 : Int) := of_decide_eq_true (by first | (with_reducible assumption) | assumption)
                    have q166 : x7_2 < (t162.length : Int) := of_decide_eq_true (by first | (with_reducible assumption) | assumption)
                    obtain ⟨ad166, e166, hx166_0⟩ := Kd.at_int (Kd.R_reads' HO_6.out).2.2 x7_2 p166 q166
                    obtain rfl : ad165 = ad166 := (by injection e166)
                    replace p166 := eq_true p166
                    replace q166 := eq_true q166
                    go_wp2
                    go_ret
                    exact ⟨by first | rfl | (simp [errW_none, errW_some] <;> rfl) | (simp [*, errW_none, errW_some] <;> rfl), by repeat (first | (with_reducible first | exact HB.out | apply below_alloc | apply pw_below_drewN | apply below_drew1 | refine below_set ?_ GE159.out) | exact HB.out)⟩
                  · rw [if_neg c18] at H
                    have c18b0 : decide ((rd t162 x7_2) < (-12)) = false := decide_eq_false c18
                    clear c18
                    have H' := Aside0.mk H
                    clear H
                    obtain ⟨Ao20, co20, eo20⟩ := Kd.R_slice HO_6.out
                    subst eo20
                    have p165 : 0 ≤ (x7_2 : Int) := of_decide_eq_true (by first | (with_reducible assumption) | assumption)
                    have q165 : x7_2 < (t162.length : Int) := of_decide_eq_true (by first | (with_reducible assumption) | assumption)
                    obtain ⟨ad165, e165, hx165_0⟩ := Kd.at_int (Kd.R_reads' HO_6.out).2.2 x7_2 p165 q165
                    cases e165
                    replace p165 := eq_true p165
                    replace q165 := eq_true q165
                    have p166 : 0 ≤ (x7_2 : Int) := of_decide_eq_true (by first | (with_reducible assumption) | assumption)
                    have q166 : x7_2 < (t162.length : Int) := of_decide_eq_true (by first | (with_reducible assumption) | assumption)
                    obtain ⟨ad166, e166, hx166_0⟩ := Kd.at_int (Kd.R_reads' HO_6.out).2.2 x7_2 p166 q166
                    obtain rfl : ad165 = ad166 := (by injection e166)
                    replace p166 := eq_true p166
                    replace q166 := eq_true q166
                    go_wp2
                    go_roundg k2
                    case measure => have := HK1.out; have := HK2.out; omega
                    case rel => exact ⟨(wrap64 (x7_2 + 1)), (by first | rfl | (simp; done) | (simp [*]; done)), H', ⟨by have := HK1.out; have := HK2.out; omega⟩, ⟨by (with_reducible repeat (first | apply Kd.R_alloc | apply Kd.R_drewN | apply Kd.R_drew)); exact HO_6.out⟩, ⟨by (with_reducible repeat (first | refine blk_drewN ?_ _ | refine blk_drew ?_ | refine blk_alloc ?_ _)); exact BK159.out⟩, ⟨by repeat (first | (with_reducible first | exact HB.out | apply below_alloc | apply pw_below_drewN | apply below_drew1 | refine below_set ?_ GE159.out) | exact HB.out)⟩⟩
              · rw [if_neg c15] at H
                exact absurd H (by simp)
            · rw [if_neg c14] at H
              have c14b0 : decide (x7_2 < (t162.length : Int)) = false := decide_eq_false c14
              clear c14
              obtain rfl := Option.some.inj H
              obtain ⟨Ao21, co21, eo21⟩ := Kd.R_slice HO_6.out
              subst eo21
              go_wp2
              go_ret
              exact ⟨by first | rfl | (simp [errW_none, errW_some] <;> rfl) | (simp [*, errW_none, errW_some] <;> rfl), by repeat (first | (with_reducible first | exact HB.out | apply below_alloc | apply pw_below_drewN | apply below_drew1 | refine below_set ?_ GE159.out) | exact HB.out)⟩
end Go.Proofs.YtfgglniigeagdaaDoor.QD
namespace Go.Proofs.YtfgglniigeagdaaDoor.QD
open Go.RowKit Go.Proofs.YtfgglniigeagdaaDoorW.PrintWords Go.Proofs.YtfgglniigeagdaaDoorW.PrintLast Go.Proofs.YtfgglniigeagdaaDoorW.PrintMore
attribute [local go_sem] max2_int min2_int max_two min_two max_three min_three max_four min_four 
set_option linter.unusedVariables false
set_option linter.unusedSimpArgs false
mutual
def ratchetref05_Closed.l0 : Nat → List (S62) → Int → Int → Option (Int × Int)
  | 0, _, _, _ => none
  | k + 1, x0, x4, x5 => if x5 < (x0.length : Int) then (if 0 ≤ x5 then (ratchetref05_Closed.l1 k x0 x4 x5 (wrap64 (x4 + (((rd_T62 x0 x5).f0).length : Int))) 0) else (none)) else (some (0, 0))
def ratchetref05_Closed.l1 : Nat → List (S62) → Int → Int → Int → Int → Option (Int × Int)
  | 0, _, _, _, _, _ => none
  | k + 1, x0, x4, x5, x6, x7 => if 0 ≤ x5 then (if x5 < (x0.length : Int) then (if x7 < (((rd_T62 x0 x5).f0).length : Int) then (if 0 ≤ x7 then ((ratchetref05_fine.f k ((rd_T53 ((rd_T62 x0 x5).f0) x7).f0) ((rd_T53 ((rd_T62 x0 x5).f0) x7).f1) ((rd_T53 ((rd_T62 x0 x5).f0) x7).f2.f0) ((rd_T53 ((rd_T62 x0 x5).f0) x7).f2.f1) ((rd_T53 ((rd_T62 x0 x5).f0) x7).f2.f2) ((rd_T53 ((rd_T62 x0 x5).f0) x7).f2.f3) x6).bind fun t171 => (if t171 = true then (ratchetref05_Closed.l1 k x0 x4 x5 x6 (wrap64 (x7 + 1))) else (some (wrap64 (x4 + x7), 50)))) else (none)) else (ratchetref05_Closed.l0 k x0 x6 (wrap64 (x5 + 1)))) else (none)) else (none)
end
def ratchetref05_Closed.f (k : Nat) (l0 : List (S62)) : Option (Int × Int) := ratchetref05_Closed.l0 k l0 0 0
theorem ratchetref05_Closed.mono_l : ∀ k, (∀ y0 y1 y2, LeO (ratchetref05_Closed.l0 k y0 y1 y2) (ratchetref05_Closed.l0 (k + 1) y0 y1 y2)) ∧ (∀ y0 y1 y2 y3 y4, LeO (ratchetref05_Closed.l1 k y0 y1 y2 y3 y4) (ratchetref05_Closed.l1 (k + 1) y0 y1 y2 y3 y4))
  | 0 => ⟨fun _ _ _ r h => by simp [ratchetref05_Closed.l0] at h, fun _ _ _ _ _ r h => by simp [ratchetref05_Closed.l1] at h⟩
  | k + 1 => by
    obtain ⟨ih0, ih1⟩ := ratchetref05_Closed.mono_l k
    refine ⟨?_, ?_⟩
    · intro y0 y1 y2
      unfold ratchetref05_Closed.l0
      repeat' first
      | (with_reducible exact ih0 _ _ _)
      | (with_reducible exact ih1 _ _ _ _ _)
      | (with_reducible exact ratchetref05_fine.mono _ _ _ _ _ _ _ _)
      | (with_reducible exact LeO.refl _)
      | (with_reducible exact LeO.none _)
      | (with_reducible refine LeO.ite ?_ ?_)
      | (with_reducible refine LeO.bind ?_ (fun _ => ?_))
      | exact ih0 _ _ _
      | exact ih1 _ _ _ _ _
      | exact ratchetref05_fine.mono _ _ _ _ _ _ _ _
      | exact LeO.none _
      | refine LeO.ite ?_ ?_
      | refine LeO.bind ?_ (fun _ => ?_)
    · intro y0 y1 y2 y3 y4
      unfold ratchetref05_Closed.l1
      repeat' first
      | (with_reducible exact ih0 _ _ _)
      | (with_reducible exact ih1 _ _ _ _ _)
      | (with_reducible exact ratchetref05_fine.mono _ _ _ _ _ _ _ _)
      | (with_reducible exact LeO.refl _)
      | (with_reducible exact LeO.none _)
      | (with_reducible refine LeO.ite ?_ ?_)
      | (with_reducible refine LeO.bind ?_ (fun _ => ?_))
      | exact ih0 _ _ _
      | exact ih1 _ _ _ _ _
      | exact ratchetref05_fine.mono _ _ _ _ _ _ _ _
      | exact LeO.none _
      | refine LeO.ite ?_ ?_
      | refine LeO.bind ?_ (fun _ => ?_)
theorem ratchetref05_Closed.mono : ∀ a0 k, LeO (ratchetref05_Closed.f k a0) (ratchetref05_Closed.f (k + 1) a0) := by
  intro a0 k
  obtain ⟨ih0, ih1⟩ := ratchetref05_Closed.mono_l k
  unfold ratchetref05_Closed.f
  repeat' first
      | (with_reducible exact ih0 _ _ _)
      | (with_reducible exact ih1 _ _ _ _ _)
      | (with_reducible exact ratchetref05_fine.mono _ _ _ _ _ _ _ _)
      | (with_reducible exact LeO.refl _)
      | (with_reducible exact LeO.none _)
      | (with_reducible refine LeO.ite ?_ ?_)
      | (with_reducible refine LeO.bind ?_ (fun _ => ?_))
      | exact ih0 _ _ _
      | exact ih1 _ _ _ _ _
      | exact ratchetref05_fine.mono _ _ _ _ _ _ _ _
      | exact LeO.none _
      | refine LeO.ite ?_ ?_
      | refine LeO.bind ?_ (fun _ => ?_)
set_option maxHeartbeats 8000000 in
set_option maxRecDepth 100000 in
theorem ratchetref05_Closed.calls (k : Nat) (A0 : Option Addr) (c0 : Nat) (l0 : List (S62)) (r1 : Int) (r2 : Int) (w : World) (hr0 : Kd.C k62 w A0 l0.length l0) (hc0 : l0.length ≤ c0) (h : ratchetref05_Closed.f k l0 = some (r1, r2)) :
    Calls Tryd.prog 32 #[.slice A0 l0.length c0] w fun e w' => e = .returned (.tuple #[.int .i64 r1, .int .i64 r2]) ∧ Below w.heap.size w w' := by
  have hu53 := Tryd.underlying53
  have HR0 := Aside0.mk hr0
  have HC0 := Aside0.mk hc0
  clear hr0 hc0
  have HB := Aside0.mk (Below.refl w.heap.size w)
  have H : (ratchetref05_Closed.l0 k l0 0 0) = some (r1, r2) := h
  clear h
  have H' := Aside0.mk H
  clear H
  go_enter Tryd.func32, Tryd.ntmps32
  go_wp2
  go_loopg [4, 5] k (fun kq v4 v5 w' => ∃ (x4_1 : Int) (x5_1 : Int), v4 = .int .i64 x4_1 ∧ v5 = .int .i64 x5_1 ∧ Aside0 (ratchetref05_Closed.l0 kq l0 x4_1 x5_1 = some (r1, r2)) ∧ Aside0 (kq ≤ k) ∧ Aside0 (Below w.heap.size w w'))
  case atStart => exact ⟨(0), (0), (by first | rfl | (simp; done) | (simp [*]; done)), (by first | rfl | (simp; done) | (simp [*]; done)), H', ⟨Nat.le_refl _⟩, ⟨by repeat (first | (with_reducible first | exact HB.out | apply below_alloc | apply pw_below_drewN | apply below_drew1) | exact HB.out)⟩⟩
  case round =>
    clear H'
    obtain ⟨x4_1, x5_1, rfl, rfl, HA, HK1, HB⟩ := hrel
    cases gk with
    | zero => exact absurd HA.out (by simp [ratchetref05_Closed.l0])
    | succ k1 =>
      have H := HA.out
      clear HA
      simp only [ratchetref05_Closed.l0] at H
      by_cases c2 : x5_1 < (l0.length : Int)
      · rw [if_pos c2] at H
        have c2b0 : decide (x5_1 < (l0.length : Int)) = true := decide_eq_true c2
        clear c2
        by_cases c3 : 0 ≤ x5_1
        · rw [if_pos c3] at H
          have c3b0 : decide (0 ≤ x5_1) = true := decide_eq_true c3
          clear c3
          have H' := Aside0.mk H
          clear H
          have p167 : 0 ≤ (x5_1 : Int) := of_decide_eq_true (by first | (with_reducible assumption) | assumption)
          have q167 : x5_1 < (l0.length : Int) := of_decide_eq_true (by first | (with_reducible assumption) | assumption)
          obtain ⟨ad167, A167_0, c167_0, e167, hx167_0, hx167_1, hl167_0, hi167_0⟩ := at_T62 HR0.out x5_1 p167 q167
          cases e167
          replace hx167_0 := (HB.out.cell (World.block_lt_of_cell? w _ hx167_0)).trans hx167_0
          replace hx167_1 := (HB.out.cell (World.block_lt_of_cell? w _ hx167_1)).trans hx167_1
          have HR167_0 := Aside0.mk hi167_0
          have HC167_0 := Aside0.mk hl167_0
          clear hi167_0 hl167_0
          replace p167 := eq_true p167
          replace q167 := eq_true q167
          go_wp2
          go_loopg [7] k1 (fun kq v7 w' => ∃ (x7_2 : Int), v7 = .int .i64 x7_2 ∧ Aside0 (ratchetref05_Closed.l1 kq l0 x4_1 x5_1 (wrap64 (x4_1 + (((rd_T62 l0 x5_1).f0).length : Int))) x7_2 = some (r1, r2)) ∧ Aside0 (kq ≤ k1) ∧ Aside0 (Below w.heap.size w w'))
          case atStart => exact ⟨(0), (by first | rfl | (simp; done) | (simp [*]; done)), H', ⟨Nat.le_refl _⟩, ⟨by repeat (first | (with_reducible first | exact HB.out | apply below_alloc | apply pw_below_drewN | apply below_drew1) | exact HB.out)⟩⟩
          case round =>
            clear H'
            try clear c1
            try clear p1
            try clear q1
            try clear hx1
            try clear c2
            try clear c2b0
            try clear p2
            try clear c3
            try clear c3b0
            try clear hx167_0
            try clear hx167_1
            try clear p167
            try clear q167
            obtain ⟨x7_2, rfl, HA, HK2, HB⟩ := hrel
            cases gk with
            | zero => exact absurd HA.out (by simp [ratchetref05_Closed.l1])
            | succ k2 =>
              have H := HA.out
              clear HA
              simp only [ratchetref05_Closed.l1] at H
              by_cases c4 : 0 ≤ x5_1
              · rw [if_pos c4] at H
                have c4b0 : decide (0 ≤ x5_1) = true := decide_eq_true c4
                clear c4
                by_cases c5 : x5_1 < (l0.length : Int)
                · rw [if_pos c5] at H
                  have c5b0 : decide (x5_1 < (l0.length : Int)) = true := decide_eq_true c5
                  clear c5
                  by_cases c6 : x7_2 < (((rd_T62 l0 x5_1).f0).length : Int)
                  · rw [if_pos c6] at H
                    have c6b0 : decide (x7_2 < (((rd_T62 l0 x5_1).f0).length : Int)) = true := decide_eq_true c6
                    clear c6
                    by_cases c7 : 0 ≤ x7_2
                    · rw [if_pos c7] at H
                      have c7b0 : decide (0 ≤ x7_2) = true := decide_eq_true c7
                      clear c7
                      replace H := Option.bind_eq_some_iff.mp H
                      obtain ⟨t171, A80, H⟩ := H
                      replace H : (if t171 = true then (ratchetref05_Closed.l1 k2 l0 x4_1 x5_1 (wrap64 (x4_1 + (((rd_T62 l0 x5_1).f0).length : Int))) (wrap64 (x7_2 + 1))) else (some (wrap64 (x4_1 + x7_2), 50))) = some (r1, r2) := H
                      have A8 := Aside0.mk A80
                      clear A80
                      by_cases c9 : t171 = true
                      · subst c9
                        have H1 : (ratchetref05_Closed.l1 k2 l0 x4_1 x5_1 (wrap64 (x4_1 + (((rd_T62 l0 x5_1).f0).length : Int))) (wrap64 (x7_2 + 1))) = some (r1, r2) := by rw [if_pos rfl] at H; exact H
                        clear H
                        have H := H1
                        clear H1
                        have H' := Aside0.mk H
                        clear H
                        have p168 : 0 ≤ (x5_1 : Int) := of_decide_eq_true (by first | (with_reducible assumption) | assumption)
                        have q168 : x5_1 < (l0.length : Int) := of_decide_eq_true (by first | (with_reducible assumption) | assumption)
                        obtain ⟨ad168, A168_0, c168_0, e168, hx168_0, hx168_1, hl168_0, hi168_0⟩ := at_T62 HR0.out x5_1 p168 q168
                        obtain rfl : ad167 = ad168 := (by injection e168)
                        replace hx168_0 := (HB.out.cell (World.block_lt_of_cell? w _ hx168_0)).trans hx168_0
                        replace hx168_1 := (HB.out.cell (World.block_lt_of_cell? w _ hx168_1)).trans hx168_1
                        have HR168_0 := Aside0.mk hi168_0
                        have HC168_0 := Aside0.mk hl168_0
                        clear hi168_0 hl168_0
                        replace p168 := eq_true p168
                        replace q168 := eq_true q168
                        have p169 : 0 ≤ (x5_1 : Int) := of_decide_eq_true (by first | (with_reducible assumption) | assumption)
                        have q169 : x5_1 < (l0.length : Int) := of_decide_eq_true (by first | (with_reducible assumption) | assumption)
                        obtain ⟨ad169, A169_0, c169_0, e169, hx169_0, hx169_1, hl169_0, hi169_0⟩ := at_T62 HR0.out x5_1 p169 q169
                        obtain rfl : ad167 = ad169 := (by injection e169)
                        replace hx169_0 := (HB.out.cell (World.block_lt_of_cell? w _ hx169_0)).trans hx169_0
                        replace hx169_1 := (HB.out.cell (World.block_lt_of_cell? w _ hx169_1)).trans hx169_1
                        have HR169_0 := Aside0.mk hi169_0
                        have HC169_0 := Aside0.mk hl169_0
                        clear hi169_0 hl169_0
                        replace p169 := eq_true p169
                        replace q169 := eq_true q169
                        have ea_ := Option.some.inj (hx168_0.symm.trans hx169_0)
                        injection ea_ with ea_ en_ ec_
                        subst ea_
                        subst ec_
                        clear en_
                        have p170 : 0 ≤ (x7_2 : Int) := of_decide_eq_true (by first | (with_reducible assumption) | assumption)
                        have q170 : x7_2 < (((rd_T62 l0 x5_1).f0).length : Int) := of_decide_eq_true (by first | (with_reducible assumption) | assumption)
                        obtain ⟨ad170, A170_1, c170_1, A170_3, c170_3, A170_4, c170_4, A170_5, c170_5, e170, hx170_0, hx170_1, hx170_2, hx170_3, hx170_4, hx170_5, hl170_1, hi170_1, hl170_3, hi170_3, hl170_4, hi170_4, hl170_5, hi170_5⟩ := at_T53 HR169_0.out x7_2 p170 q170
                        cases e170
                        replace hx170_0 := (HB.out.cell (World.block_lt_of_cell? w _ hx170_0)).trans hx170_0
                        replace hx170_1 := (HB.out.cell (World.block_lt_of_cell? w _ hx170_1)).trans hx170_1
                        replace hx170_2 := (HB.out.cell (World.block_lt_of_cell? w _ hx170_2)).trans hx170_2
                        replace hx170_3 := (HB.out.cell (World.block_lt_of_cell? w _ hx170_3)).trans hx170_3
                        replace hx170_4 := (HB.out.cell (World.block_lt_of_cell? w _ hx170_4)).trans hx170_4
                        replace hx170_5 := (HB.out.cell (World.block_lt_of_cell? w _ hx170_5)).trans hx170_5
                        have HR170_1 := Aside0.mk hi170_1
                        have HC170_1 := Aside0.mk hl170_1
                        clear hi170_1 hl170_1
                        have HR170_3 := Aside0.mk hi170_3
                        have HC170_3 := Aside0.mk hl170_3
                        clear hi170_3 hl170_3
                        have HR170_4 := Aside0.mk hi170_4
                        have HC170_4 := Aside0.mk hl170_4
                        clear hi170_4 hl170_4
                        have HR170_5 := Aside0.mk hi170_5
                        have HC170_5 := Aside0.mk hl170_5
                        clear hi170_5 hl170_5
                        replace p170 := eq_true p170
                        replace q170 := eq_true q170
                        go_wp2_with (first | ((with_reducible refine gate_callee (f := 55) rfl ?_); refine goesL_ (some 41) rfl rfl Tryd.func55 (by kernel_rfl) rfl #[.agg #[.bool ((rd_T53 ((rd_T62 l0 x5_1).f0) x7_2).f0), .slice A170_1 ((rd_T53 ((rd_T62 l0 x5_1).f0) x7_2).f1).length c170_1, .int .i64 ((rd_T53 ((rd_T62 l0 x5_1).f0) x7_2).f2.f0), .slice A170_3 ((rd_T53 ((rd_T62 l0 x5_1).f0) x7_2).f2.f1).length c170_3, .slice A170_4 ((rd_T53 ((rd_T62 l0 x5_1).f0) x7_2).f2.f2).length c170_4, .slice A170_5 ((rd_T53 ((rd_T62 l0 x5_1).f0) x7_2).f2.f3).length c170_5], .int .i64 (wrap64 (x4_1 + (((rd_T62 l0 x5_1).f0).length : Int)))] rfl (by (try simp only [List.map_toArray, List.map_cons, List.map_nil]); first | done | rfl | (simp only [List.length_drop, List.length_take]; rfl)) ?_; (with_reducible refine (ratchetref05_fine.calls k2 ((rd_T53 ((rd_T62 l0 x5_1).f0) x7_2).f0) _ _ ((rd_T53 ((rd_T62 l0 x5_1).f0) x7_2).f1) ((rd_T53 ((rd_T62 l0 x5_1).f0) x7_2).f2.f0) _ _ ((rd_T53 ((rd_T62 l0 x5_1).f0) x7_2).f2.f1) _ _ ((rd_T53 ((rd_T62 l0 x5_1).f0) x7_2).f2.f2) _ _ ((rd_T53 ((rd_T62 l0 x5_1).f0) x7_2).f2.f3) (wrap64 (x4_1 + (((rd_T62 l0 x5_1).f0).length : Int))) true _ ?side1 ?side2 ?side3 ?side4 ?side5 ?side6 ?side7 ?side8 A8.out).mono ?_); (case side1 => repeat (first | exact (Kd.C_below HR170_1.out HB.out) | (with_reducible refine Kd.C_alloc ?_ _) | (with_reducible refine Kd.C_drewN ?_ _) | (with_reducible refine Kd.C_drew ?_))); (case side2 => exact HC170_1.out); (case side3 => repeat (first | exact (Kd.C_below HR170_3.out HB.out) | (with_reducible refine Kd.C_alloc ?_ _) | (with_reducible refine Kd.C_drewN ?_ _) | (with_reducible refine Kd.C_drew ?_))); (case side4 => exact HC170_3.out); (case side5 => repeat (first | exact (Kd.C_below HR170_4.out HB.out) | (with_reducible refine Kd.C_alloc ?_ _) | (with_reducible refine Kd.C_drewN ?_ _) | (with_reducible refine Kd.C_drew ?_))); (case side6 => exact HC170_4.out); (case side7 => repeat (first | exact (Kd.C_below HR170_5.out HB.out) | (with_reducible refine Kd.C_alloc ?_ _) | (with_reducible refine Kd.C_drewN ?_ _) | (with_reducible refine Kd.C_drew ?_))); (case side8 => exact HC170_5.out); rintro e w10 ⟨rfl, hb⟩; refine ⟨_, rfl, ?_⟩; have n0_ := Aside0.mk (below_step (by repeat (first | (with_reducible first | exact HB.out | apply below_alloc | apply pw_below_drewN | apply below_drew1) | exact HB.out)) hb); clear HB; have HB := n0_; clear n0_; (try clear hb); (try clear hb2); (try clear hk); (try clear hi)))
                        go_roundg k2
                        case measure => have := HK1.out; have := HK2.out; omega
                        case rel => exact ⟨(wrap64 (x7_2 + 1)), (by first | rfl | (simp; done) | (simp [*]; done)), H', ⟨by have := HK1.out; have := HK2.out; omega⟩, ⟨by repeat (first | (with_reducible first | exact HB.out | apply below_alloc | apply pw_below_drewN | apply below_drew1) | exact HB.out)⟩⟩
                      · replace c9 := Bool.eq_false_iff.mpr c9
                        subst c9
                        have H1 : (some (wrap64 (x4_1 + x7_2), 50)) = some (r1, r2) := by rw [if_neg (show ¬ (false = true) by decide)] at H; exact H
                        clear H
                        have H := H1
                        clear H1
                        simp only [Option.some.injEq, Prod.mk.injEq] at H
                        obtain ⟨rfl, rfl⟩ := H
                        have p168 : 0 ≤ (x5_1 : Int) := of_decide_eq_true (by first | (with_reducible assumption) | assumption)
                        have q168 : x5_1 < (l0.length : Int) := of_decide_eq_true (by first | (with_reducible assumption) | assumption)
                        obtain ⟨ad168, A168_0, c168_0, e168, hx168_0, hx168_1, hl168_0, hi168_0⟩ := at_T62 HR0.out x5_1 p168 q168
                        obtain rfl : ad167 = ad168 := (by injection e168)
                        replace hx168_0 := (HB.out.cell (World.block_lt_of_cell? w _ hx168_0)).trans hx168_0
                        replace hx168_1 := (HB.out.cell (World.block_lt_of_cell? w _ hx168_1)).trans hx168_1
                        have HR168_0 := Aside0.mk hi168_0
                        have HC168_0 := Aside0.mk hl168_0
                        clear hi168_0 hl168_0
                        replace p168 := eq_true p168
                        replace q168 := eq_true q168
                        have p169 : 0 ≤ (x5_1 : Int) := of_decide_eq_true (by first | (with_reducible assumption) | assumption)
                        have q169 : x5_1 < (l0.length : Int) := of_decide_eq_true (by first | (with_reducible assumption) | assumption)
                        obtain ⟨ad169, A169_0, c169_0, e169, hx169_0, hx169_1, hl169_0, hi169_0⟩ := at_T62 HR0.out x5_1 p169 q169
                        obtain rfl : ad167 = ad169 := (by injection e169)
                        replace hx169_0 := (HB.out.cell (World.block_lt_of_cell? w _ hx169_0)).trans hx169_0
                        replace hx169_1 := (HB.out.cell (World.block_lt_of_cell? w _ hx169_1)).trans hx169_1
                        have HR169_0 := Aside0.mk hi169_0
                        have HC169_0 := Aside0.mk hl169_0
                        clear hi169_0 hl169_0
                        replace p169 := eq_true p169
                        replace q169 := eq_true q169
                        have ea_ := Option.some.inj (hx168_0.symm.trans hx169_0)
                        injection ea_ with ea_ en_ ec_
                        subst ea_
                        subst ec_
                        clear en_
                        have p170 : 0 ≤ (x7_2 : Int) := of_decide_eq_true (by first | (with_reducible assumption) | assumption)
                        have q170 : x7_2 < (((rd_T62 l0 x5_1).f0).length : Int) := of_decide_eq_true (by first | (with_reducible assumption) | assumption)
                        obtain ⟨ad170, A170_1, c170_1, A170_3, c170_3, A170_4, c170_4, A170_5, c170_5, e170, hx170_0, hx170_1, hx170_2, hx170_3, hx170_4, hx170_5, hl170_1, hi170_1, hl170_3, hi170_3, hl170_4, hi170_4, hl170_5, hi170_5⟩ := at_T53 HR169_0.out x7_2 p170 q170
                        cases e170
                        replace hx170_0 := (HB.out.cell (World.block_lt_of_cell? w _ hx170_0)).trans hx170_0
                        replace hx170_1 := (HB.out.cell (World.block_lt_of_cell? w _ hx170_1)).trans hx170_1
                        replace hx170_2 := (HB.out.cell (World.block_lt_of_cell? w _ hx170_2)).trans hx170_2
                        replace hx170_3 := (HB.out.cell (World.block_lt_of_cell? w _ hx170_3)).trans hx170_3
                        replace hx170_4 := (HB.out.cell (World.block_lt_of_cell? w _ hx170_4)).trans hx170_4
                        replace hx170_5 := (HB.out.cell (World.block_lt_of_cell? w _ hx170_5)).trans hx170_5
                        have HR170_1 := Aside0.mk hi170_1
                        have HC170_1 := Aside0.mk hl170_1
                        clear hi170_1 hl170_1
                        have HR170_3 := Aside0.mk hi170_3
                        have HC170_3 := Aside0.mk hl170_3
                        clear hi170_3 hl170_3
                        have HR170_4 := Aside0.mk hi170_4
                        have HC170_4 := Aside0.mk hl170_4
                        clear hi170_4 hl170_4
                        have HR170_5 := Aside0.mk hi170_5
                        have HC170_5 := Aside0.mk hl170_5
                        clear hi170_5 hl170_5
                        replace p170 := eq_true p170
                        replace q170 := eq_true q170
                        go_wp2_with (first | ((with_reducible refine gate_callee (f := 55) rfl ?_); refine goesL_ (some 41) rfl rfl Tryd.func55 (by kernel_rfl) rfl #[.agg #[.bool ((rd_T53 ((rd_T62 l0 x5_1).f0) x7_2).f0), .slice A170_1 ((rd_T53 ((rd_T62 l0 x5_1).f0) x7_2).f1).length c170_1, .int .i64 ((rd_T53 ((rd_T62 l0 x5_1).f0) x7_2).f2.f0), .slice A170_3 ((rd_T53 ((rd_T62 l0 x5_1).f0) x7_2).f2.f1).length c170_3, .slice A170_4 ((rd_T53 ((rd_T62 l0 x5_1).f0) x7_2).f2.f2).length c170_4, .slice A170_5 ((rd_T53 ((rd_T62 l0 x5_1).f0) x7_2).f2.f3).length c170_5], .int .i64 (wrap64 (x4_1 + (((rd_T62 l0 x5_1).f0).length : Int)))] rfl (by (try simp only [List.map_toArray, List.map_cons, List.map_nil]); first | done | rfl | (simp only [List.length_drop, List.length_take]; rfl)) ?_; (with_reducible refine (ratchetref05_fine.calls k2 ((rd_T53 ((rd_T62 l0 x5_1).f0) x7_2).f0) _ _ ((rd_T53 ((rd_T62 l0 x5_1).f0) x7_2).f1) ((rd_T53 ((rd_T62 l0 x5_1).f0) x7_2).f2.f0) _ _ ((rd_T53 ((rd_T62 l0 x5_1).f0) x7_2).f2.f1) _ _ ((rd_T53 ((rd_T62 l0 x5_1).f0) x7_2).f2.f2) _ _ ((rd_T53 ((rd_T62 l0 x5_1).f0) x7_2).f2.f3) (wrap64 (x4_1 + (((rd_T62 l0 x5_1).f0).length : Int))) false _ ?side1 ?side2 ?side3 ?side4 ?side5 ?side6 ?side7 ?side8 A8.out).mono ?_); (case side1 => repeat (first | exact (Kd.C_below HR170_1.out HB.out) | (with_reducible refine Kd.C_alloc ?_ _) | (with_reducible refine Kd.C_drewN ?_ _) | (with_reducible refine Kd.C_drew ?_))); (case side2 => exact HC170_1.out); (case side3 => repeat (first | exact (Kd.C_below HR170_3.out HB.out) | (with_reducible refine Kd.C_alloc ?_ _) | (with_reducible refine Kd.C_drewN ?_ _) | (with_reducible refine Kd.C_drew ?_))); (case side4 => exact HC170_3.out); (case side5 => repeat (first | exact (Kd.C_below HR170_4.out HB.out) | (with_reducible refine Kd.C_alloc ?_ _) | (with_reducible refine Kd.C_drewN ?_ _) | (with_reducible refine Kd.C_drew ?_))); (case side6 => exact HC170_4.out); (case side7 => repeat (first | exact (Kd.C_below HR170_5.out HB.out) | (with_reducible refine Kd.C_alloc ?_ _) | (with_reducible refine Kd.C_drewN ?_ _) | (with_reducible refine Kd.C_drew ?_))); (case side8 => exact HC170_5.out); rintro e w11 ⟨rfl, hb⟩; refine ⟨_, rfl, ?_⟩; have n0_ := Aside0.mk (below_step (by repeat (first | (with_reducible first | exact HB.out | apply below_alloc | apply pw_below_drewN | apply below_drew1) | exact HB.out)) hb); clear HB; have HB := n0_; clear n0_; (try clear hb); (try clear hb2); (try clear hk); (try clear hi)))
                        go_ret2
                        exact ⟨by first | rfl | (simp [errW_none, errW_some] <;> rfl) | (simp [*, errW_none, errW_some] <;> rfl), by repeat (first | (with_reducible first | exact HB.out | apply below_alloc | apply pw_below_drewN | apply below_drew1) | exact HB.out)⟩
                    · rw [if_neg c7] at H
                      exact absurd H (by simp)
                  · rw [if_neg c6] at H
                    have c6b0 : decide (x7_2 < (((rd_T62 l0 x5_1).f0).length : Int)) = false := decide_eq_false c6
                    clear c6
                    have H' := Aside0.mk H
                    clear H
                    have p168 : 0 ≤ (x5_1 : Int) := of_decide_eq_true (by first | (with_reducible assumption) | assumption)
                    have q168 : x5_1 < (l0.length : Int) := of_decide_eq_true (by first | (with_reducible assumption) | assumption)
                    obtain ⟨ad168, A168_0, c168_0, e168, hx168_0, hx168_1, hl168_0, hi168_0⟩ := at_T62 HR0.out x5_1 p168 q168
                    obtain rfl : ad167 = ad168 := (by injection e168)
                    replace hx168_0 := (HB.out.cell (World.block_lt_of_cell? w _ hx168_0)).trans hx168_0
                    replace hx168_1 := (HB.out.cell (World.block_lt_of_cell? w _ hx168_1)).trans hx168_1
                    have HR168_0 := Aside0.mk hi168_0
                    have HC168_0 := Aside0.mk hl168_0
                    clear hi168_0 hl168_0
                    replace p168 := eq_true p168
                    replace q168 := eq_true q168
                    go_wp2
                    go_roundg k2
                    case measure => have := HK1.out; have := HK2.out; omega
                    case rel => exact ⟨((wrap64 (x4_1 + (((rd_T62 l0 x5_1).f0).length : Int)))), (wrap64 (x5_1 + 1)), (by first | rfl | (simp; done) | (simp [*]; done)), (by first | rfl | (simp; done) | (simp [*]; done)), H', ⟨by have := HK1.out; have := HK2.out; omega⟩, ⟨by repeat (first | (with_reducible first | exact HB.out | apply below_alloc | apply pw_below_drewN | apply below_drew1) | exact HB.out)⟩⟩
                · rw [if_neg c5] at H
                  exact absurd H (by simp)
              · rw [if_neg c4] at H
                exact absurd H (by simp)
        · rw [if_neg c3] at H
          exact absurd H (by simp)
      · rw [if_neg c2] at H
        have c2b0 : decide (x5_1 < (l0.length : Int)) = false := decide_eq_false c2
        clear c2
        simp only [Option.some.injEq, Prod.mk.injEq] at H
        obtain ⟨rfl, rfl⟩ := H
        go_wp2
        go_ret2
        exact ⟨by first | rfl | (simp [errW_none, errW_some] <;> rfl) | (simp [*, errW_none, errW_some] <;> rfl), by repeat (first | (with_reducible first | exact HB.out | apply below_alloc | apply pw_below_drewN | apply below_drew1) | exact HB.out)⟩
end Go.Proofs.YtfgglniigeagdaaDoor.QD
namespace Go.Proofs.YtfgglniigeagdaaDoor.QD
open Go.RowKit Go.Proofs.YtfgglniigeagdaaDoorW.PrintWords Go.Proofs.YtfgglniigeagdaaDoorW.PrintLast Go.Proofs.YtfgglniigeagdaaDoorW.PrintMore
attribute [local go_sem] max2_int min2_int max_two min_two max_three min_three max_four min_four 
set_option linter.unusedVariables false
set_option linter.unusedSimpArgs false
def ratchetref05_Count.l0 : Nat → List (S62) → Int → Int → Option (Int)
  | 0, _, _, _ => none
  | k + 1, x0, x3, x4 => if x4 < (x0.length : Int) then (if 0 ≤ x4 then (ratchetref05_Count.l0 k x0 (wrap64 (x3 + (((rd_T62 x0 x4).f0).length : Int))) (wrap64 (x4 + 1))) else (none)) else (some x3)
def ratchetref05_Count.f (k : Nat) (l0 : List (S62)) : Option (Int) := ratchetref05_Count.l0 k l0 0 0
theorem ratchetref05_Count.mono_l : ∀ k, (∀ y0 y1 y2, LeO (ratchetref05_Count.l0 k y0 y1 y2) (ratchetref05_Count.l0 (k + 1) y0 y1 y2))
  | 0 => fun _ _ _ r h => by simp [ratchetref05_Count.l0] at h
  | k + 1 => by
    have ih0 := ratchetref05_Count.mono_l k
    · intro y0 y1 y2
      unfold ratchetref05_Count.l0
      repeat' first
      | (with_reducible exact ih0 _ _ _)
      | (with_reducible exact LeO.refl _)
      | (with_reducible exact LeO.none _)
      | (with_reducible refine LeO.ite ?_ ?_)
      | (with_reducible refine LeO.bind ?_ (fun _ => ?_))
      | exact ih0 _ _ _
      | exact LeO.none _
      | refine LeO.ite ?_ ?_
      | refine LeO.bind ?_ (fun _ => ?_)
theorem ratchetref05_Count.mono : ∀ a0 k, LeO (ratchetref05_Count.f k a0) (ratchetref05_Count.f (k + 1) a0) := by
  intro a0 k
  have ih0 := ratchetref05_Count.mono_l k
  unfold ratchetref05_Count.f
  repeat' first
      | (with_reducible exact ih0 _ _ _)
      | (with_reducible exact LeO.refl _)
      | (with_reducible exact LeO.none _)
      | (with_reducible refine LeO.ite ?_ ?_)
      | (with_reducible refine LeO.bind ?_ (fun _ => ?_))
      | exact ih0 _ _ _
      | exact LeO.none _
      | refine LeO.ite ?_ ?_
      | refine LeO.bind ?_ (fun _ => ?_)
set_option maxHeartbeats 8000000 in
set_option maxRecDepth 100000 in
theorem ratchetref05_Count.calls (k : Nat) (A0 : Option Addr) (c0 : Nat) (l0 : List (S62)) (r : Int) (w : World) (hr0 : Kd.C k62 w A0 l0.length l0) (hc0 : l0.length ≤ c0) (h : ratchetref05_Count.f k l0 = some r) :
    Calls Tryd.prog 29 #[.slice A0 l0.length c0] w fun e w' => e = .returned (.int .i64 r) ∧ Drawn0 w w' := by
  have HR0 := Aside0.mk hr0
  have HC0 := Aside0.mk hc0
  clear hr0 hc0
  have H : (ratchetref05_Count.l0 k l0 0 0) = some r := h
  clear h
  have H' := Aside0.mk H
  clear H
  go_enter Tryd.func29, Tryd.ntmps29
  go_wp2
  go_loopg [3, 4] k (fun kq v3 v4 w' => ∃ (x3_1 : Int) (x4_1 : Int), v3 = .int .i64 x3_1 ∧ v4 = .int .i64 x4_1 ∧ Aside0 (ratchetref05_Count.l0 kq l0 x3_1 x4_1 = some r) ∧ Aside0 (kq ≤ k) ∧ Drawn0 w w')
  case atStart => exact ⟨(0), (0), (by first | rfl | (simp; done) | (simp [*]; done)), (by first | rfl | (simp; done) | (simp [*]; done)), H', ⟨Nat.le_refl _⟩, by repeat (first | exact Drawn0.refl _ | apply Drawn0.step)⟩
  case round =>
    clear H'
    obtain ⟨x3_1, x4_1, rfl, rfl, HA, HK1, ⟨m1, rfl⟩⟩ := hrel
    cases gk with
    | zero => exact absurd HA.out (by simp [ratchetref05_Count.l0])
    | succ k1 =>
      have H := HA.out
      clear HA
      simp only [ratchetref05_Count.l0] at H
      by_cases c2 : x4_1 < (l0.length : Int)
      · rw [if_pos c2] at H
        have c2b0 : decide (x4_1 < (l0.length : Int)) = true := decide_eq_true c2
        clear c2
        by_cases c3 : 0 ≤ x4_1
        · rw [if_pos c3] at H
          have c3b0 : decide (0 ≤ x4_1) = true := decide_eq_true c3
          clear c3
          have H' := Aside0.mk H
          clear H
          have p262 : 0 ≤ (x4_1 : Int) := of_decide_eq_true (by first | (with_reducible assumption) | assumption)
          have q262 : x4_1 < (l0.length : Int) := of_decide_eq_true (by first | (with_reducible assumption) | assumption)
          obtain ⟨ad262, A262_0, c262_0, e262, hx262_0, hx262_1, hl262_0, hi262_0⟩ := at_T62 HR0.out x4_1 p262 q262
          cases e262
          have HR262_0 := Aside0.mk hi262_0
          have HC262_0 := Aside0.mk hl262_0
          clear hi262_0 hl262_0
          replace p262 := eq_true p262
          replace q262 := eq_true q262
          go_wp2
          go_roundg k1
          case measure => have := HK1.out; omega
          case rel => exact ⟨(wrap64 (x3_1 + (((rd_T62 l0 x4_1).f0).length : Int))), (wrap64 (x4_1 + 1)), (by first | rfl | (simp; done) | (simp [*]; done)), (by first | rfl | (simp; done) | (simp [*]; done)), H', ⟨by have := HK1.out; omega⟩, by repeat (first | exact Drawn0.refl _ | apply Drawn0.step)⟩
        · rw [if_neg c3] at H
          exact absurd H (by simp)
      · rw [if_neg c2] at H
        have c2b0 : decide (x4_1 < (l0.length : Int)) = false := decide_eq_false c2
        clear c2
        obtain rfl := Option.some.inj H
        go_wp2
        go_ret
        exact ⟨by first | rfl | (simp; done) | (simp [*]; done), by repeat (first | exact Drawn0.refl _ | apply Drawn0.step)⟩
end Go.Proofs.YtfgglniigeagdaaDoor.QD
namespace Go.Proofs.YtfgglniigeagdaaDoor.QD
open Go.RowKit Go.Proofs.YtfgglniigeagdaaDoorW.PrintWords Go.Proofs.YtfgglniigeagdaaDoorW.PrintLast Go.Proofs.YtfgglniigeagdaaDoorW.PrintMore
attribute [local go_sem] max2_int min2_int max_two min_two max_three min_three max_four min_four 
set_option linter.unusedVariables false
set_option linter.unusedSimpArgs false
mutual
def ratchetlaw06_own.l0 : Nat → List (S62) → List (S62) → Int → Option ((List (S62)))
  | 0, _, _, _ => none
  | k + 1, x0, x3, x4 => if x4 < (x0.length : Int) then (if 0 ≤ x4 then (ratchetlaw06_own.l1 k x0 x3 x4 0 ([] : List (S53)) ((rd_T62 x0 x4).f1)) else (none)) else (some x3)
def ratchetlaw06_own.l1 : Nat → List (S62) → List (S62) → Int → Int → List (S53) → Bool → Option ((List (S62)))
  | 0, _, _, _, _, _, _ => none
  | k + 1, x0, x3, x4, x6, x105000, x105001 => if 0 ≤ x4 then (if x4 < (x0.length : Int) then (if x6 < (((rd_T62 x0 x4).f0).length : Int) then (if 0 ≤ x6 then (if ([] : List Int).length + ((rd_T53 ((rd_T62 x0 x4).f0) x6).f1).length < 17592186044416 then (if ([] : List (S74)).length + ((rd_T53 ((rd_T62 x0 x4).f0) x6).f2.f1).length < 5864062014805 then (if ([] : List (S74)).length + ((rd_T53 ((rd_T62 x0 x4).f0) x6).f2.f2).length < 5864062014805 then (if ([] : List (S118)).length + ((rd_T53 ((rd_T62 x0 x4).f0) x6).f2.f3).length < 4398046511104 then (if x105000.length < 1256584717458 then (ratchetlaw06_own.l1 k x0 x3 x4 (wrap64 (x6 + 1)) (x105000 ++ [(⟨(rd_T53 ((rd_T62 x0 x4).f0) x6).f0, (([] : List Int) ++ ((rd_T53 ((rd_T62 x0 x4).f0) x6).f1)), (⟨(rd_T53 ((rd_T62 x0 x4).f0) x6).f2.f0, (([] : List (S74)) ++ ((rd_T53 ((rd_T62 x0 x4).f0) x6).f2.f1)), (([] : List (S74)) ++ ((rd_T53 ((rd_T62 x0 x4).f0) x6).f2.f2)), (([] : List (S118)) ++ ((rd_T53 ((rd_T62 x0 x4).f0) x6).f2.f3))⟩ : S51)⟩ : S53)]) x105001) else (none)) else (none)) else (none)) else (none)) else (none)) else (none)) else (if x3.length < 4398046511104 then (ratchetlaw06_own.l0 k x0 (x3 ++ [(⟨x105000, x105001⟩ : S62)]) (wrap64 (x4 + 1))) else (none))) else (none)) else (none)
end
def ratchetlaw06_own.f (k : Nat) (l0 : List (S62)) : Option ((List (S62))) := ratchetlaw06_own.l0 k l0 ([] : List (S62)) 0
theorem ratchetlaw06_own.mono_l : ∀ k, (∀ y0 y1 y2, LeO (ratchetlaw06_own.l0 k y0 y1 y2) (ratchetlaw06_own.l0 (k + 1) y0 y1 y2)) ∧ (∀ y0 y1 y2 y3 y4 y5, LeO (ratchetlaw06_own.l1 k y0 y1 y2 y3 y4 y5) (ratchetlaw06_own.l1 (k + 1) y0 y1 y2 y3 y4 y5))
  | 0 => ⟨fun _ _ _ r h => by simp [ratchetlaw06_own.l0] at h, fun _ _ _ _ _ _ r h => by simp [ratchetlaw06_own.l1] at h⟩
  | k + 1 => by
    obtain ⟨ih0, ih1⟩ := ratchetlaw06_own.mono_l k
    refine ⟨?_, ?_⟩
    · intro y0 y1 y2
      unfold ratchetlaw06_own.l0
      repeat' first
      | (with_reducible exact ih0 _ _ _)
      | (with_reducible exact ih1 _ _ _ _ _ _)
      | (with_reducible exact LeO.refl _)
      | (with_reducible exact LeO.none _)
      | (with_reducible refine LeO.ite ?_ ?_)
      | (with_reducible refine LeO.bind ?_ (fun _ => ?_))
      | exact ih0 _ _ _
      | exact ih1 _ _ _ _ _ _
      | exact LeO.none _
      | refine LeO.ite ?_ ?_
      | refine LeO.bind ?_ (fun _ => ?_)
    · intro y0 y1 y2 y3 y4 y5
      unfold ratchetlaw06_own.l1
      repeat' first
      | (with_reducible exact ih0 _ _ _)
      | (with_reducible exact ih1 _ _ _ _ _ _)
      | (with_reducible exact LeO.refl _)
      | (with_reducible exact LeO.none _)
      | (with_reducible refine LeO.ite ?_ ?_)
      | (with_reducible refine LeO.bind ?_ (fun _ => ?_))
      | exact ih0 _ _ _
      | exact ih1 _ _ _ _ _ _
      | exact LeO.none _
      | refine LeO.ite ?_ ?_
      | refine LeO.bind ?_ (fun _ => ?_)
theorem ratchetlaw06_own.mono : ∀ a0 k, LeO (ratchetlaw06_own.f k a0) (ratchetlaw06_own.f (k + 1) a0) := by
  intro a0 k
  obtain ⟨ih0, ih1⟩ := ratchetlaw06_own.mono_l k
  unfold ratchetlaw06_own.f
  repeat' first
      | (with_reducible exact ih0 _ _ _)
      | (with_reducible exact ih1 _ _ _ _ _ _)
      | (with_reducible exact LeO.refl _)
      | (with_reducible exact LeO.none _)
      | (with_reducible refine LeO.ite ?_ ?_)
      | (with_reducible refine LeO.bind ?_ (fun _ => ?_))
      | exact ih0 _ _ _
      | exact ih1 _ _ _ _ _ _
      | exact LeO.none _
      | refine LeO.ite ?_ ?_
      | refine LeO.bind ?_ (fun _ => ?_)
set_option maxHeartbeats 8000000 in
set_option maxRecDepth 100000 in
theorem ratchetlaw06_own.calls (k : Nat) (A0 : Option Addr) (c0 : Nat) (l0 : List (S62)) (r : List (S62)) (w : World) (hr0 : Kd.C k62 w A0 l0.length l0) (hc0 : l0.length ≤ c0) (h : ratchetlaw06_own.f k l0 = some r) :
    Calls Tryd.prog 13 #[.slice A0 l0.length c0] w fun e w' => ∃ v0_ : Value, e = .returned (v0_) ∧ Kd.R k62 62 w' w.heap.size (fun _ => True) v0_ r ∧ Below w.heap.size w w' := by
  have hu62 := Tryd.underlying62
  have hu53 := Tryd.underlying53
  have HR0 := Aside0.mk hr0
  have HC0 := Aside0.mk hc0
  clear hr0 hc0
  have HB := Aside0.mk (Below.refl w.heap.size w)
  have H : (ratchetlaw06_own.l0 k l0 ([] : List (S62)) 0) = some r := h
  clear h
  have H' := Aside0.mk H
  clear H
  go_enter Tryd.func13, Tryd.ntmps13
  go_wp2
  go_loopg [3, 4] k (fun kq v3 v4 w' => ∃ (x3_1 : List (S62)) (x4_1 : Int), v4 = .int .i64 x4_1 ∧ Aside0 (ratchetlaw06_own.l0 kq l0 x3_1 x4_1 = some r) ∧ Aside0 (kq ≤ k) ∧ Aside0 (Kd.R k62 62 w' w.heap.size (fun _ => True) v3 x3_1) ∧ Aside0 (Below w.heap.size w w'))
  case atStart => exact ⟨(([] : List (S62))), (0), (by first | rfl | (simp; done) | (simp [*]; done)), H', ⟨Nat.le_refl _⟩, ⟨by first | exact Kd.R_nil _ _ _ _ _ | exact Kd.N_nil _ _ _ _ _ | exact Kd.V_nil _ _ _ _ _ | exact Kd.Q_nil _ _ _ _ _ | exact Kd.S_nil _ _ _ _ _⟩, ⟨by repeat (first | (with_reducible first | exact HB.out | apply below_alloc | apply pw_below_drewN | apply below_drew1) | exact HB.out)⟩⟩
  case round =>
    clear H'
    try clear c1
    obtain ⟨x3_1, x4_1, rfl, HA, HK1, HO_3, HB⟩ := hrel
    cases gk with
    | zero => exact absurd HA.out (by simp [ratchetlaw06_own.l0])
    | succ k1 =>
      have H := HA.out
      clear HA
      simp only [ratchetlaw06_own.l0] at H
      by_cases c2 : x4_1 < (l0.length : Int)
      · rw [if_pos c2] at H
        have c2b0 : decide (x4_1 < (l0.length : Int)) = true := decide_eq_true c2
        clear c2
        by_cases c3 : 0 ≤ x4_1
        · rw [if_pos c3] at H
          have c3b0 : decide (0 ≤ x4_1) = true := decide_eq_true c3
          clear c3
          have H' := Aside0.mk H
          clear H
          have p103 : 0 ≤ (x4_1 : Int) := of_decide_eq_true (by first | (with_reducible assumption) | assumption)
          have q103 : x4_1 < (l0.length : Int) := of_decide_eq_true (by first | (with_reducible assumption) | assumption)
          obtain ⟨ad103, A103_0, c103_0, e103, hx103_0, hx103_1, hl103_0, hi103_0⟩ := at_T62 HR0.out x4_1 p103 q103
          cases e103
          replace hx103_0 := (HB.out.cell (World.block_lt_of_cell? w _ hx103_0)).trans hx103_0
          replace hx103_1 := (HB.out.cell (World.block_lt_of_cell? w _ hx103_1)).trans hx103_1
          have HR103_0 := Aside0.mk hi103_0
          have HC103_0 := Aside0.mk hl103_0
          clear hi103_0 hl103_0
          replace p103 := eq_true p103
          replace q103 := eq_true q103
          go_wp2_with (first | ((with_reducible refine gate_dst (N := 5) rfl ?_); refine box_event ?hg (N := 5) ?hd (cs := #[.slice none 0 0, .bool false]) (t := 62) ?hr ?_; (case hd => rfl); (case hg => rfl); (case hr => first | (go_simp; done) | (go_simp; rfl)); intro gb104 hg w4 hbox hb; have n0_ := Aside0.mk (Kd.R_below (Kd.R_elderB (by (with_reducible repeat (first | apply Kd.R_alloc | apply Kd.R_drewN | apply Kd.R_drew)); exact HO_3.out) gb104 (Nat.le_of_eq hg.symm)) hb); have n1_ := Aside0.mk (below_step (by repeat (first | (with_reducible first | exact HB.out | apply below_alloc | apply pw_below_drewN | apply below_drew1) | exact HB.out)) hb); have n2_ := Aside0.mk (hbox); have n3_ := Aside0.mk ((by rw [hg]; exact (below_size (by repeat (first | (with_reducible first | exact HB.out | apply below_alloc | apply pw_below_drewN | apply below_drew1) | exact HB.out))) : w.heap.size ≤ gb104)); have n4_ := Aside0.mk ((by rw [hg]; exact (below_size (by repeat (first | (with_reducible first | exact HB.out | apply below_alloc | apply pw_below_drewN | apply below_drew1) | exact HB.out))) : w.heap.size ≤ gb104)); clear HO_3; clear HB; have HO_3 := n0_; have HB := n1_; have BK104 := n2_; have GW104 := n3_; have GE104 := n4_; clear n0_ n1_ n2_ n3_ n4_; clear hb hbox hg; have hcz5_0 : w4.cell? ⟨gb104, 0, none⟩ = some (.slice none 0 0) := (blk_cell BK104.out 0).trans rfl; have hcz5_1 : w4.cell? ⟨gb104, 1, none⟩ = some (.bool false) := (blk_cell BK104.out 1).trans rfl; have hfz5_0 := blk_frozen BK104.out 0; have hfz5_1 := blk_frozen BK104.out 1))
          go_loopg [6] k1 (fun kq v6 w' => ∃ (x6_2 : Int) (x105000_2 : List (S53)) (u105000 : Value), v6 = .int .i64 x6_2 ∧ Aside0 (ratchetlaw06_own.l1 kq l0 x3_1 x4_1 x6_2 x105000_2 ((rd_T62 l0 x4_1).f1) = some r) ∧ Aside0 (kq ≤ k1) ∧ Aside0 (Kd.R k62 62 w' w.heap.size (fun k_ => some k_ ≠ (u105000 : Value).ownBlock ∧ k_ ≠ gb104) u3 x3_1) ∧ Aside0 (Kd.S k53 53 w' w.heap.size (fun _ => True) u105000 x105000_2) ∧ Aside0 (w'.heap[gb104]? = some (.cells #[u105000, .bool ((rd_T62 l0 x4_1).f1)] 62 (0, 0))) ∧ Aside0 (Below w.heap.size w w'))
          case atStart => exact ⟨(0), (([] : List (S53))), (.slice none 0 0), (by first | rfl | (simp; done) | (simp [*]; done)), H', ⟨Nat.le_refl _⟩, ⟨by (with_reducible repeat (first | apply Kd.R_alloc | apply Kd.R_drewN | apply Kd.R_drew)); exact Kd.R_mono (Kd.R_far (p := ⟨gb104, 1, none⟩) (Kd.R_far (p := ⟨gb104, 0, none⟩) (Kd.R_mono HO_3.out (fun k_ hk => (⟨hk, hk.2⟩ : _ ∧ k_ ≠ gb104))) (fun _ hk => hk.2) (.slice none 0 0)) (fun _ hk => hk.2) (.bool ((rd_T62 l0 x4_1).f1))) (fun _ hk => ⟨(by simp [Value.ownBlock]), hk.1.2⟩)⟩, ⟨by first | exact Kd.S_nil _ _ _ _ _ | exact Kd.N_nil _ _ _ _ _ | exact Kd.V_nil _ _ _ _ _ | exact Kd.Q_nil _ _ _ _ _ | exact Kd.R_nil _ _ _ _ _⟩, ⟨by (with_reducible repeat (first | refine blk_drewN ?_ _ | refine blk_drew ?_ | refine blk_alloc ?_ _)); refine blk_put (cs := #[.slice none 0 0, .bool false]) ?_ 1 _ rfl; (with_reducible repeat (first | refine blk_drewN ?_ _ | refine blk_drew ?_ | refine blk_alloc ?_ _)); refine blk_put (cs := #[.slice none 0 0, .bool false]) ?_ 0 _ rfl; (with_reducible repeat (first | refine blk_drewN ?_ _ | refine blk_drew ?_ | refine blk_alloc ?_ _)); exact BK104.out⟩, ⟨by repeat (first | (with_reducible first | exact HB.out | apply below_alloc | apply pw_below_drewN | apply below_drew1 | refine below_set ?_ GE104.out) | exact HB.out)⟩⟩
          case round =>
            clear H'
            try clear c1
            try clear p1
            try clear q1
            try clear hx1
            try clear c2
            try clear c2b0
            try clear p2
            try clear c3
            try clear c3b0
            try clear hcz5_0
            try clear hcz5_1
            try clear hfz5_0
            try clear hfz5_1
            try clear hx103_0
            try clear hx103_1
            try clear p103
            try clear q103
            obtain ⟨x6_2, x105000_2, u105000, rfl, HA, HK2, HO_3, HO_105000, BK104, HB⟩ := hrel
            cases gk with
            | zero => exact absurd HA.out (by simp [ratchetlaw06_own.l1])
            | succ k2 =>
              have H := HA.out
              clear HA
              simp only [ratchetlaw06_own.l1] at H
              by_cases c6 : 0 ≤ x4_1
              · rw [if_pos c6] at H
                have c6b0 : decide (0 ≤ x4_1) = true := decide_eq_true c6
                clear c6
                by_cases c7 : x4_1 < (l0.length : Int)
                · rw [if_pos c7] at H
                  have c7b0 : decide (x4_1 < (l0.length : Int)) = true := decide_eq_true c7
                  clear c7
                  by_cases c8 : x6_2 < (((rd_T62 l0 x4_1).f0).length : Int)
                  · rw [if_pos c8] at H
                    have c8b0 : decide (x6_2 < (((rd_T62 l0 x4_1).f0).length : Int)) = true := decide_eq_true c8
                    clear c8
                    by_cases c9 : 0 ≤ x6_2
                    · rw [if_pos c9] at H
                      have c9b0 : decide (0 ≤ x6_2) = true := decide_eq_true c9
                      clear c9
                      by_cases c10 : ([] : List Int).length + ((rd_T53 ((rd_T62 l0 x4_1).f0) x6_2).f1).length < 17592186044416
                      · rw [if_pos c10] at H
                        have LMc10 := Aside0.mk c10
                        clear c10
                        obtain ⟨y110, hy110⟩ : ∃ y_ : List Int, y_ = (([] : List Int) ++ ((rd_T53 ((rd_T62 l0 x4_1).f0) x6_2).f1)) := ⟨_, rfl⟩
                        replace H : (if ([] : List (S74)).length + ((rd_T53 ((rd_T62 l0 x4_1).f0) x6_2).f2.f1).length < 5864062014805 then (if ([] : List (S74)).length + ((rd_T53 ((rd_T62 l0 x4_1).f0) x6_2).f2.f2).length < 5864062014805 then (if ([] : List (S118)).length + ((rd_T53 ((rd_T62 l0 x4_1).f0) x6_2).f2.f3).length < 4398046511104 then (if x105000_2.length < 1256584717458 then (ratchetlaw06_own.l1 k2 l0 x3_1 x4_1 (wrap64 (x6_2 + 1)) (x105000_2 ++ [(⟨(rd_T53 ((rd_T62 l0 x4_1).f0) x6_2).f0, y110, (⟨(rd_T53 ((rd_T62 l0 x4_1).f0) x6_2).f2.f0, (([] : List (S74)) ++ ((rd_T53 ((rd_T62 l0 x4_1).f0) x6_2).f2.f1)), (([] : List (S74)) ++ ((rd_T53 ((rd_T62 l0 x4_1).f0) x6_2).f2.f2)), (([] : List (S118)) ++ ((rd_T53 ((rd_T62 l0 x4_1).f0) x6_2).f2.f3))⟩ : S51)⟩ : S53)]) ((rd_T62 l0 x4_1).f1)) else (none)) else (none)) else (none)) else (none)) = some r := by first | (rw [hy110]; with_reducible exact H) | (have H2_ := (Option.bind_some _ _).symm.trans H; rw [hy110]; with_reducible exact H2_) | (have H2_ := (Option.bind_some _ _).symm.trans H; with_reducible exact H2_) | with_reducible exact H | (rw [hy110]; exact H) | exact H
                        have Ny110 := Aside0.mk hy110
                        clear hy110
                        by_cases c11 : ([] : List (S74)).length + ((rd_T53 ((rd_T62 l0 x4_1).f0) x6_2).f2.f1).length < 5864062014805
                        · rw [if_pos c11] at H
                          have LMc11 := Aside0.mk c11
                          clear c11
                          obtain ⟨y113, hy113⟩ : ∃ y_ : List (S74), y_ = (([] : List (S74)) ++ ((rd_T53 ((rd_T62 l0 x4_1).f0) x6_2).f2.f1)) := ⟨_, rfl⟩
                          replace H : (if ([] : List (S74)).length + ((rd_T53 ((rd_T62 l0 x4_1).f0) x6_2).f2.f2).length < 5864062014805 then (if ([] : List (S118)).length + ((rd_T53 ((rd_T62 l0 x4_1).f0) x6_2).f2.f3).length < 4398046511104 then (if x105000_2.length < 1256584717458 then (ratchetlaw06_own.l1 k2 l0 x3_1 x4_1 (wrap64 (x6_2 + 1)) (x105000_2 ++ [(⟨(rd_T53 ((rd_T62 l0 x4_1).f0) x6_2).f0, y110, (⟨(rd_T53 ((rd_T62 l0 x4_1).f0) x6_2).f2.f0, y113, (([] : List (S74)) ++ ((rd_T53 ((rd_T62 l0 x4_1).f0) x6_2).f2.f2)), (([] : List (S118)) ++ ((rd_T53 ((rd_T62 l0 x4_1).f0) x6_2).f2.f3))⟩ : S51)⟩ : S53)]) ((rd_T62 l0 x4_1).f1)) else (none)) else (none)) else (none)) = some r := by first | (rw [hy113]; with_reducible exact H) | (have H2_ := (Option.bind_some _ _).symm.trans H; rw [hy113]; with_reducible exact H2_) | (have H2_ := (Option.bind_some _ _).symm.trans H; with_reducible exact H2_) | with_reducible exact H | (rw [hy113]; exact H) | exact H
                          have Ny113 := Aside0.mk hy113
                          clear hy113
                          by_cases c12 : ([] : List (S74)).length + ((rd_T53 ((rd_T62 l0 x4_1).f0) x6_2).f2.f2).length < 5864062014805
                          · rw [if_pos c12] at H
                            have LMc12 := Aside0.mk c12
                            clear c12
                            obtain ⟨y116, hy116⟩ : ∃ y_ : List (S74), y_ = (([] : List (S74)) ++ ((rd_T53 ((rd_T62 l0 x4_1).f0) x6_2).f2.f2)) := ⟨_, rfl⟩
                            replace H : (if ([] : List (S118)).length + ((rd_T53 ((rd_T62 l0 x4_1).f0) x6_2).f2.f3).length < 4398046511104 then (if x105000_2.length < 1256584717458 then (ratchetlaw06_own.l1 k2 l0 x3_1 x4_1 (wrap64 (x6_2 + 1)) (x105000_2 ++ [(⟨(rd_T53 ((rd_T62 l0 x4_1).f0) x6_2).f0, y110, (⟨(rd_T53 ((rd_T62 l0 x4_1).f0) x6_2).f2.f0, y113, y116, (([] : List (S118)) ++ ((rd_T53 ((rd_T62 l0 x4_1).f0) x6_2).f2.f3))⟩ : S51)⟩ : S53)]) ((rd_T62 l0 x4_1).f1)) else (none)) else (none)) = some r := by first | (rw [hy116]; with_reducible exact H) | (have H2_ := (Option.bind_some _ _).symm.trans H; rw [hy116]; with_reducible exact H2_) | (have H2_ := (Option.bind_some _ _).symm.trans H; with_reducible exact H2_) | with_reducible exact H | (rw [hy116]; exact H) | exact H
                            have Ny116 := Aside0.mk hy116
                            clear hy116
                            by_cases c13 : ([] : List (S118)).length + ((rd_T53 ((rd_T62 l0 x4_1).f0) x6_2).f2.f3).length < 4398046511104
                            · rw [if_pos c13] at H
                              have LMc13 := Aside0.mk c13
                              clear c13
                              obtain ⟨y119, hy119⟩ : ∃ y_ : List (S118), y_ = (([] : List (S118)) ++ ((rd_T53 ((rd_T62 l0 x4_1).f0) x6_2).f2.f3)) := ⟨_, rfl⟩
                              replace H : (if x105000_2.length < 1256584717458 then (ratchetlaw06_own.l1 k2 l0 x3_1 x4_1 (wrap64 (x6_2 + 1)) (x105000_2 ++ [(⟨(rd_T53 ((rd_T62 l0 x4_1).f0) x6_2).f0, y110, (⟨(rd_T53 ((rd_T62 l0 x4_1).f0) x6_2).f2.f0, y113, y116, y119⟩ : S51)⟩ : S53)]) ((rd_T62 l0 x4_1).f1)) else (none)) = some r := by first | (rw [hy119]; with_reducible exact H) | (have H2_ := (Option.bind_some _ _).symm.trans H; rw [hy119]; with_reducible exact H2_) | (have H2_ := (Option.bind_some _ _).symm.trans H; with_reducible exact H2_) | with_reducible exact H | (rw [hy119]; exact H) | exact H
                              have Ny119 := Aside0.mk hy119
                              clear hy119
                              by_cases c14 : x105000_2.length < 1256584717458
                              · rw [if_pos c14] at H
                                have LMc14 := Aside0.mk c14
                                clear c14
                                obtain ⟨y122, hy122⟩ : ∃ y_ : List (S53), y_ = (x105000_2 ++ [(⟨(rd_T53 ((rd_T62 l0 x4_1).f0) x6_2).f0, y110, (⟨(rd_T53 ((rd_T62 l0 x4_1).f0) x6_2).f2.f0, y113, y116, y119⟩ : S51)⟩ : S53)]) := ⟨_, rfl⟩
                                replace H : (ratchetlaw06_own.l1 k2 l0 x3_1 x4_1 (wrap64 (x6_2 + 1)) y122 ((rd_T62 l0 x4_1).f1)) = some r := by first | (rw [hy122]; with_reducible exact H) | (have H2_ := (Option.bind_some _ _).symm.trans H; rw [hy122]; with_reducible exact H2_) | (have H2_ := (Option.bind_some _ _).symm.trans H; with_reducible exact H2_) | with_reducible exact H | (rw [hy122]; exact H) | exact H
                                have Ny122 := Aside0.mk hy122
                                clear hy122
                                have H' := Aside0.mk H
                                clear H
                                have p105 : 0 ≤ (x4_1 : Int) := of_decide_eq_true (by first | (with_reducible assumption) | assumption)
                                have q105 : x4_1 < (l0.length : Int) := of_decide_eq_true (by first | (with_reducible assumption) | assumption)
                                obtain ⟨ad105, A105_0, c105_0, e105, hx105_0, hx105_1, hl105_0, hi105_0⟩ := at_T62 HR0.out x4_1 p105 q105
                                obtain rfl : ad103 = ad105 := (by injection e105)
                                replace hx105_0 := (HB.out.cell (World.block_lt_of_cell? w _ hx105_0)).trans hx105_0
                                replace hx105_1 := (HB.out.cell (World.block_lt_of_cell? w _ hx105_1)).trans hx105_1
                                have HR105_0 := Aside0.mk hi105_0
                                have HC105_0 := Aside0.mk hl105_0
                                clear hi105_0 hl105_0
                                replace p105 := eq_true p105
                                replace q105 := eq_true q105
                                have p106 : 0 ≤ (x4_1 : Int) := of_decide_eq_true (by first | (with_reducible assumption) | assumption)
                                have q106 : x4_1 < (l0.length : Int) := of_decide_eq_true (by first | (with_reducible assumption) | assumption)
                                obtain ⟨ad106, A106_0, c106_0, e106, hx106_0, hx106_1, hl106_0, hi106_0⟩ := at_T62 HR0.out x4_1 p106 q106
                                obtain rfl : ad103 = ad106 := (by injection e106)
                                replace hx106_0 := (HB.out.cell (World.block_lt_of_cell? w _ hx106_0)).trans hx106_0
                                replace hx106_1 := (HB.out.cell (World.block_lt_of_cell? w _ hx106_1)).trans hx106_1
                                have HR106_0 := Aside0.mk hi106_0
                                have HC106_0 := Aside0.mk hl106_0
                                clear hi106_0 hl106_0
                                replace p106 := eq_true p106
                                replace q106 := eq_true q106
                                have ea_ := Option.some.inj (hx105_0.symm.trans hx106_0)
                                injection ea_ with ea_ en_ ec_
                                subst ea_
                                subst ec_
                                clear en_
                                have p107 : 0 ≤ (x6_2 : Int) := of_decide_eq_true (by first | (with_reducible assumption) | assumption)
                                have q107 : x6_2 < (((rd_T62 l0 x4_1).f0).length : Int) := of_decide_eq_true (by first | (with_reducible assumption) | assumption)
                                obtain ⟨ad107, A107_1, c107_1, A107_3, c107_3, A107_4, c107_4, A107_5, c107_5, e107, hx107_0, hx107_1, hx107_2, hx107_3, hx107_4, hx107_5, hl107_1, hi107_1, hl107_3, hi107_3, hl107_4, hi107_4, hl107_5, hi107_5⟩ := at_T53 HR106_0.out x6_2 p107 q107
                                cases e107
                                replace hx107_0 := (HB.out.cell (World.block_lt_of_cell? w _ hx107_0)).trans hx107_0
                                replace hx107_1 := (HB.out.cell (World.block_lt_of_cell? w _ hx107_1)).trans hx107_1
                                replace hx107_2 := (HB.out.cell (World.block_lt_of_cell? w _ hx107_2)).trans hx107_2
                                replace hx107_3 := (HB.out.cell (World.block_lt_of_cell? w _ hx107_3)).trans hx107_3
                                replace hx107_4 := (HB.out.cell (World.block_lt_of_cell? w _ hx107_4)).trans hx107_4
                                replace hx107_5 := (HB.out.cell (World.block_lt_of_cell? w _ hx107_5)).trans hx107_5
                                have HR107_1 := Aside0.mk hi107_1
                                have HC107_1 := Aside0.mk hl107_1
                                clear hi107_1 hl107_1
                                have HR107_3 := Aside0.mk hi107_3
                                have HC107_3 := Aside0.mk hl107_3
                                clear hi107_3 hl107_3
                                have HR107_4 := Aside0.mk hi107_4
                                have HC107_4 := Aside0.mk hl107_4
                                clear hi107_4 hl107_4
                                have HR107_5 := Aside0.mk hi107_5
                                have HC107_5 := Aside0.mk hl107_5
                                clear hi107_5 hl107_5
                                replace p107 := eq_true p107
                                replace q107 := eq_true q107
                                go_wp2_with (first | ((with_reducible refine gate_dst (N := 7) rfl ?_); refine box_event ?hg (N := 7) ?hd (cs := #[.bool false, .slice none 0 0, .int .i64 0, .slice none 0 0, .slice none 0 0, .slice none 0 0]) (t := 53) ?hr ?_; (case hd => rfl); (case hg => rfl); (case hr => first | (go_simp; done) | (go_simp; rfl)); intro gb108 hg w15 hbox hb; have n0_ := Aside0.mk (Kd.R_below (Kd.R_elderB (by (with_reducible repeat (first | apply Kd.R_alloc | apply Kd.R_drewN | apply Kd.R_drew)); exact HO_3.out) gb108 (Nat.le_of_eq hg.symm)) hb); have n1_ := Aside0.mk (Kd.S_below (Kd.S_elderB (by (with_reducible repeat (first | apply Kd.S_alloc | apply Kd.S_drewN | apply Kd.S_drew)); exact HO_105000.out) gb108 (Nat.le_of_eq hg.symm)) hb); have n2_ := Aside0.mk (blk_below (g := gb104) (o := .cells #[u105000, .bool ((rd_T62 l0 x4_1).f1)] 62 (0, 0)) (by (with_reducible repeat (first | refine blk_drewN ?_ _ | refine blk_drew ?_ | refine blk_alloc ?_ _)); exact BK104.out) hb); have n3_ := Aside0.mk (below_step (by repeat (first | (with_reducible first | exact HB.out | apply below_alloc | apply pw_below_drewN | apply below_drew1 | refine below_set ?_ GE104.out) | exact HB.out)) hb); have n4_ := Aside0.mk (hbox); have n5_ := Aside0.mk ((by rw [hg]; exact (below_size (by repeat (first | (with_reducible first | exact HB.out | apply below_alloc | apply pw_below_drewN | apply below_drew1 | refine below_set ?_ GE104.out) | exact HB.out))) : w.heap.size ≤ gb108)); have n6_ := Aside0.mk ((by rw [hg]; exact (below_size (by repeat (first | (with_reducible first | exact HB.out | apply below_alloc | apply pw_below_drewN | apply below_drew1 | refine below_set ?_ GE104.out) | exact HB.out))) : w.heap.size ≤ gb108)); have n7_ := Aside0.mk ((by rw [hg]; exact Nat.ne_of_lt (blk_lt (g := gb104) (o := .cells #[u105000, .bool ((rd_T62 l0 x4_1).f1)] 62 (0, 0)) (by (with_reducible repeat (first | refine blk_drewN ?_ _ | refine blk_drew ?_ | refine blk_alloc ?_ _)); exact BK104.out)) : gb104 ≠ gb108)); have n8_ := Aside0.mk ((by rw [hg]; exact Nat.ne_of_gt (blk_lt (g := gb104) (o := .cells #[u105000, .bool ((rd_T62 l0 x4_1).f1)] 62 (0, 0)) (by (with_reducible repeat (first | refine blk_drewN ?_ _ | refine blk_drew ?_ | refine blk_alloc ?_ _)); exact BK104.out)) : gb108 ≠ gb104)); clear HO_3; clear HO_105000; clear BK104; clear HB; have HO_3 := n0_; have HO_105000 := n1_; have BK104 := n2_; have HB := n3_; have BK108 := n4_; have GW108 := n5_; have GE108 := n6_; have NB104_108 := n7_; have NB108_104 := n8_; clear n0_ n1_ n2_ n3_ n4_ n5_ n6_ n7_ n8_; clear hb hbox hg; have hnb16 := NB108_104.out; have hnc16 := NB104_108.out; have hcz17_0 : w15.cell? ⟨gb108, 0, none⟩ = some (.bool false) := (blk_cell BK108.out 0).trans rfl; have hcz17_1 : w15.cell? ⟨gb108, 1, none⟩ = some (.slice none 0 0) := (blk_cell BK108.out 1).trans rfl; have hcz17_2 : w15.cell? ⟨gb108, 2, none⟩ = some (.int .i64 0) := (blk_cell BK108.out 2).trans rfl; have hcz17_3 : w15.cell? ⟨gb108, 3, none⟩ = some (.slice none 0 0) := (blk_cell BK108.out 3).trans rfl; have hcz17_4 : w15.cell? ⟨gb108, 4, none⟩ = some (.slice none 0 0) := (blk_cell BK108.out 4).trans rfl; have hcz17_5 : w15.cell? ⟨gb108, 5, none⟩ = some (.slice none 0 0) := (blk_cell BK108.out 5).trans rfl; have hfz17_0 := blk_frozen BK108.out 0; have hfz17_1 := blk_frozen BK108.out 1; have hfz17_2 := blk_frozen BK108.out 2; have hfz17_3 := blk_frozen BK108.out 3; have hfz17_4 := blk_frozen BK108.out 4; have hfz17_5 := blk_frozen BK108.out 5) | ((with_reducible refine gate_dst (N := 8) rfl ?_); refine box_event ?hg (N := 8) ?hd (cs := #[.bool false, .slice none 0 0, .int .i64 0, .slice none 0 0, .slice none 0 0, .slice none 0 0]) (t := 53) ?hr ?_; (case hd => rfl); (case hg => rfl); (case hr => first | (go_simp; done) | (go_simp; rfl)); intro gb109 hg w18 hbox hb; have n0_ := Aside0.mk (Kd.R_below (Kd.R_elderB (by (with_reducible repeat (first | apply Kd.R_alloc | apply Kd.R_drewN | apply Kd.R_drew)); exact (Kd.R_mono (Kd.R_far (p := ⟨gb108, 5, none⟩) (Kd.R_far (p := ⟨gb108, 4, none⟩) (Kd.R_far (p := ⟨gb108, 3, none⟩) (Kd.R_far (p := ⟨gb108, 2, none⟩) (Kd.R_far (p := ⟨gb108, 1, none⟩) (Kd.R_far (p := ⟨gb108, 0, none⟩) (Kd.R_mono HO_3.out (fun k_ hk => (⟨hk, hk.2⟩ : _ ∧ k_ ≠ gb108))) (fun _ hk => hk.2) (.bool ((rd_T53 ((rd_T62 l0 x4_1).f0) x6_2).f0))) (fun _ hk => hk.2) (.slice A107_1 ((rd_T53 ((rd_T62 l0 x4_1).f0) x6_2).f1).length c107_1)) (fun _ hk => hk.2) (.int .i64 ((rd_T53 ((rd_T62 l0 x4_1).f0) x6_2).f2.f0))) (fun _ hk => hk.2) (.slice A107_3 ((rd_T53 ((rd_T62 l0 x4_1).f0) x6_2).f2.f1).length c107_3)) (fun _ hk => hk.2) (.slice A107_4 ((rd_T53 ((rd_T62 l0 x4_1).f0) x6_2).f2.f2).length c107_4)) (fun _ hk => hk.2) (.slice A107_5 ((rd_T53 ((rd_T62 l0 x4_1).f0) x6_2).f2.f3).length c107_5)) (fun _ h_ => h_.1))) gb109 (Nat.le_of_eq hg.symm)) hb); have n1_ := Aside0.mk (Kd.S_below (Kd.S_elderB (by (with_reducible repeat (first | apply Kd.S_alloc | apply Kd.S_drewN | apply Kd.S_drew)); exact (Kd.S_mono (Kd.S_far (p := ⟨gb108, 5, none⟩) (Kd.S_far (p := ⟨gb108, 4, none⟩) (Kd.S_far (p := ⟨gb108, 3, none⟩) (Kd.S_far (p := ⟨gb108, 2, none⟩) (Kd.S_far (p := ⟨gb108, 1, none⟩) (Kd.S_far (p := ⟨gb108, 0, none⟩) (Kd.S_mono HO_105000.out (fun k_ hk => (⟨hk, hk.2⟩ : _ ∧ k_ ≠ gb108))) (fun _ hk => hk.2) (.bool ((rd_T53 ((rd_T62 l0 x4_1).f0) x6_2).f0))) (fun _ hk => hk.2) (.slice A107_1 ((rd_T53 ((rd_T62 l0 x4_1).f0) x6_2).f1).length c107_1)) (fun _ hk => hk.2) (.int .i64 ((rd_T53 ((rd_T62 l0 x4_1).f0) x6_2).f2.f0))) (fun _ hk => hk.2) (.slice A107_3 ((rd_T53 ((rd_T62 l0 x4_1).f0) x6_2).f2.f1).length c107_3)) (fun _ hk => hk.2) (.slice A107_4 ((rd_T53 ((rd_T62 l0 x4_1).f0) x6_2).f2.f2).length c107_4)) (fun _ hk => hk.2) (.slice A107_5 ((rd_T53 ((rd_T62 l0 x4_1).f0) x6_2).f2.f3).length c107_5)) (fun _ h_ => h_.1))) gb109 (Nat.le_of_eq hg.symm)) hb); have n2_ := Aside0.mk (blk_below (g := gb104) (o := .cells #[u105000, .bool ((rd_T62 l0 x4_1).f1)] 62 (0, 0)) (by (with_reducible repeat (first | refine blk_drewN ?_ _ | refine blk_drew ?_ | refine blk_alloc ?_ _)); refine blk_far ?_ NB104_108.out _; (with_reducible repeat (first | refine blk_drewN ?_ _ | refine blk_drew ?_ | refine blk_alloc ?_ _)); refine blk_far ?_ NB104_108.out _; (with_reducible repeat (first | refine blk_drewN ?_ _ | refine blk_drew ?_ | refine blk_alloc ?_ _)); refine blk_far ?_ NB104_108.out _; (with_reducible repeat (first | refine blk_drewN ?_ _ | refine blk_drew ?_ | refine blk_alloc ?_ _)); refine blk_far ?_ NB104_108.out _; (with_reducible repeat (first | refine blk_drewN ?_ _ | refine blk_drew ?_ | refine blk_alloc ?_ _)); refine blk_far ?_ NB104_108.out _; (with_reducible repeat (first | refine blk_drewN ?_ _ | refine blk_drew ?_ | refine blk_alloc ?_ _)); refine blk_far ?_ NB104_108.out _; (with_reducible repeat (first | refine blk_drewN ?_ _ | refine blk_drew ?_ | refine blk_alloc ?_ _)); exact BK104.out) hb); have n3_ := Aside0.mk (blk_below (g := gb108) (o := .cells #[.bool ((rd_T53 ((rd_T62 l0 x4_1).f0) x6_2).f0), .slice A107_1 ((rd_T53 ((rd_T62 l0 x4_1).f0) x6_2).f1).length c107_1, .int .i64 ((rd_T53 ((rd_T62 l0 x4_1).f0) x6_2).f2.f0), .slice A107_3 ((rd_T53 ((rd_T62 l0 x4_1).f0) x6_2).f2.f1).length c107_3, .slice A107_4 ((rd_T53 ((rd_T62 l0 x4_1).f0) x6_2).f2.f2).length c107_4, .slice A107_5 ((rd_T53 ((rd_T62 l0 x4_1).f0) x6_2).f2.f3).length c107_5] 53 (0, 0)) (by (with_reducible repeat (first | refine blk_drewN ?_ _ | refine blk_drew ?_ | refine blk_alloc ?_ _)); refine blk_put (cs := #[.bool ((rd_T53 ((rd_T62 l0 x4_1).f0) x6_2).f0), .slice A107_1 ((rd_T53 ((rd_T62 l0 x4_1).f0) x6_2).f1).length c107_1, .int .i64 ((rd_T53 ((rd_T62 l0 x4_1).f0) x6_2).f2.f0), .slice A107_3 ((rd_T53 ((rd_T62 l0 x4_1).f0) x6_2).f2.f1).length c107_3, .slice A107_4 ((rd_T53 ((rd_T62 l0 x4_1).f0) x6_2).f2.f2).length c107_4, .slice none 0 0]) ?_ 5 _ rfl; (with_reducible repeat (first | refine blk_drewN ?_ _ | refine blk_drew ?_ | refine blk_alloc ?_ _)); refine blk_put (cs := #[.bool ((rd_T53 ((rd_T62 l0 x4_1).f0) x6_2).f0), .slice A107_1 ((rd_T53 ((rd_T62 l0 x4_1).f0) x6_2).f1).length c107_1, .int .i64 ((rd_T53 ((rd_T62 l0 x4_1).f0) x6_2).f2.f0), .slice A107_3 ((rd_T53 ((rd_T62 l0 x4_1).f0) x6_2).f2.f1).length c107_3, .slice none 0 0, .slice none 0 0]) ?_ 4 _ rfl; (with_reducible repeat (first | refine blk_drewN ?_ _ | refine blk_drew ?_ | refine blk_alloc ?_ _)); refine blk_put (cs := #[.bool ((rd_T53 ((rd_T62 l0 x4_1).f0) x6_2).f0), .slice A107_1 ((rd_T53 ((rd_T62 l0 x4_1).f0) x6_2).f1).length c107_1, .int .i64 ((rd_T53 ((rd_T62 l0 x4_1).f0) x6_2).f2.f0), .slice none 0 0, .slice none 0 0, .slice none 0 0]) ?_ 3 _ rfl; (with_reducible repeat (first | refine blk_drewN ?_ _ | refine blk_drew ?_ | refine blk_alloc ?_ _)); refine blk_put (cs := #[.bool ((rd_T53 ((rd_T62 l0 x4_1).f0) x6_2).f0), .slice A107_1 ((rd_T53 ((rd_T62 l0 x4_1).f0) x6_2).f1).length c107_1, .int .i64 0, .slice none 0 0, .slice none 0 0, .slice none 0 0]) ?_ 2 _ rfl; (with_reducible repeat (first | refine blk_drewN ?_ _ | refine blk_drew ?_ | refine blk_alloc ?_ _)); refine blk_put (cs := #[.bool ((rd_T53 ((rd_T62 l0 x4_1).f0) x6_2).f0), .slice none 0 0, .int .i64 0, .slice none 0 0, .slice none 0 0, .slice none 0 0]) ?_ 1 _ rfl; (with_reducible repeat (first | refine blk_drewN ?_ _ | refine blk_drew ?_ | refine blk_alloc ?_ _)); refine blk_put (cs := #[.bool false, .slice none 0 0, .int .i64 0, .slice none 0 0, .slice none 0 0, .slice none 0 0]) ?_ 0 _ rfl; (with_reducible repeat (first | refine blk_drewN ?_ _ | refine blk_drew ?_ | refine blk_alloc ?_ _)); exact BK108.out) hb); have n4_ := Aside0.mk (below_step (by repeat (first | (with_reducible first | exact HB.out | apply below_alloc | apply pw_below_drewN | apply below_drew1 | refine below_set ?_ GE104.out | refine below_set ?_ GE108.out) | exact HB.out)) hb); have n5_ := Aside0.mk (hbox); have n6_ := Aside0.mk ((by rw [hg]; exact (below_size (by repeat (first | (with_reducible first | exact HB.out | apply below_alloc | apply pw_below_drewN | apply below_drew1 | refine below_set ?_ GE104.out | refine below_set ?_ GE108.out) | exact HB.out))) : w.heap.size ≤ gb109)); have n7_ := Aside0.mk ((by rw [hg]; exact (below_size (by repeat (first | (with_reducible first | exact HB.out | apply below_alloc | apply pw_below_drewN | apply below_drew1 | refine below_set ?_ GE104.out | refine below_set ?_ GE108.out) | exact HB.out))) : w.heap.size ≤ gb109)); have n8_ := Aside0.mk ((by rw [hg]; exact Nat.ne_of_lt (blk_lt (g := gb104) (o := .cells #[u105000, .bool ((rd_T62 l0 x4_1).f1)] 62 (0, 0)) (by (with_reducible repeat (first | refine blk_drewN ?_ _ | refine blk_drew ?_ | refine blk_alloc ?_ _)); refine blk_far ?_ NB104_108.out _; (with_reducible repeat (first | refine blk_drewN ?_ _ | refine blk_drew ?_ | refine blk_alloc ?_ _)); refine blk_far ?_ NB104_108.out _; (with_reducible repeat (first | refine blk_drewN ?_ _ | refine blk_drew ?_ | refine blk_alloc ?_ _)); refine blk_far ?_ NB104_108.out _; (with_reducible repeat (first | refine blk_drewN ?_ _ | refine blk_drew ?_ | refine blk_alloc ?_ _)); refine blk_far ?_ NB104_108.out _; (with_reducible repeat (first | refine blk_drewN ?_ _ | refine blk_drew ?_ | refine blk_alloc ?_ _)); refine blk_far ?_ NB104_108.out _; (with_reducible repeat (first | refine blk_drewN ?_ _ | refine blk_drew ?_ | refine blk_alloc ?_ _)); refine blk_far ?_ NB104_108.out _; (with_reducible repeat (first | refine blk_drewN ?_ _ | refine blk_drew ?_ | refine blk_alloc ?_ _)); exact BK104.out)) : gb104 ≠ gb109)); have n9_ := Aside0.mk ((by rw [hg]; exact Nat.ne_of_gt (blk_lt (g := gb104) (o := .cells #[u105000, .bool ((rd_T62 l0 x4_1).f1)] 62 (0, 0)) (by (with_reducible repeat (first | refine blk_drewN ?_ _ | refine blk_drew ?_ | refine blk_alloc ?_ _)); refine blk_far ?_ NB104_108.out _; (with_reducible repeat (first | refine blk_drewN ?_ _ | refine blk_drew ?_ | refine blk_alloc ?_ _)); refine blk_far ?_ NB104_108.out _; (with_reducible repeat (first | refine blk_drewN ?_ _ | refine blk_drew ?_ | refine blk_alloc ?_ _)); refine blk_far ?_ NB104_108.out _; (with_reducible repeat (first | refine blk_drewN ?_ _ | refine blk_drew ?_ | refine blk_alloc ?_ _)); refine blk_far ?_ NB104_108.out _; (with_reducible repeat (first | refine blk_drewN ?_ _ | refine blk_drew ?_ | refine blk_alloc ?_ _)); refine blk_far ?_ NB104_108.out _; (with_reducible repeat (first | refine blk_drewN ?_ _ | refine blk_drew ?_ | refine blk_alloc ?_ _)); refine blk_far ?_ NB104_108.out _; (with_reducible repeat (first | refine blk_drewN ?_ _ | refine blk_drew ?_ | refine blk_alloc ?_ _)); exact BK104.out)) : gb109 ≠ gb104)); have n10_ := Aside0.mk ((by rw [hg]; exact Nat.ne_of_lt (blk_lt (g := gb108) (o := .cells #[.bool ((rd_T53 ((rd_T62 l0 x4_1).f0) x6_2).f0), .slice A107_1 ((rd_T53 ((rd_T62 l0 x4_1).f0) x6_2).f1).length c107_1, .int .i64 ((rd_T53 ((rd_T62 l0 x4_1).f0) x6_2).f2.f0), .slice A107_3 ((rd_T53 ((rd_T62 l0 x4_1).f0) x6_2).f2.f1).length c107_3, .slice A107_4 ((rd_T53 ((rd_T62 l0 x4_1).f0) x6_2).f2.f2).length c107_4, .slice A107_5 ((rd_T53 ((rd_T62 l0 x4_1).f0) x6_2).f2.f3).length c107_5] 53 (0, 0)) (by (with_reducible repeat (first | refine blk_drewN ?_ _ | refine blk_drew ?_ | refine blk_alloc ?_ _)); refine blk_put (cs := #[.bool ((rd_T53 ((rd_T62 l0 x4_1).f0) x6_2).f0), .slice A107_1 ((rd_T53 ((rd_T62 l0 x4_1).f0) x6_2).f1).length c107_1, .int .i64 ((rd_T53 ((rd_T62 l0 x4_1).f0) x6_2).f2.f0), .slice A107_3 ((rd_T53 ((rd_T62 l0 x4_1).f0) x6_2).f2.f1).length c107_3, .slice A107_4 ((rd_T53 ((rd_T62 l0 x4_1).f0) x6_2).f2.f2).length c107_4, .slice none 0 0]) ?_ 5 _ rfl; (with_reducible repeat (first | refine blk_drewN ?_ _ | refine blk_drew ?_ | refine blk_alloc ?_ _)); refine blk_put (cs := #[.bool ((rd_T53 ((rd_T62 l0 x4_1).f0) x6_2).f0), .slice A107_1 ((rd_T53 ((rd_T62 l0 x4_1).f0) x6_2).f1).length c107_1, .int .i64 ((rd_T53 ((rd_T62 l0 x4_1).f0) x6_2).f2.f0), .slice A107_3 ((rd_T53 ((rd_T62 l0 x4_1).f0) x6_2).f2.f1).length c107_3, .slice none 0 0, .slice none 0 0]) ?_ 4 _ rfl; (with_reducible repeat (first | refine blk_drewN ?_ _ | refine blk_drew ?_ | refine blk_alloc ?_ _)); refine blk_put (cs := #[.bool ((rd_T53 ((rd_T62 l0 x4_1).f0) x6_2).f0), .slice A107_1 ((rd_T53 ((rd_T62 l0 x4_1).f0) x6_2).f1).length c107_1, .int .i64 ((rd_T53 ((rd_T62 l0 x4_1).f0) x6_2).f2.f0), .slice none 0 0, .slice none 0 0, .slice none 0 0]) ?_ 3 _ rfl; (with_reducible repeat (first | refine blk_drewN ?_ _ | refine blk_drew ?_ | refine blk_alloc ?_ _)); refine blk_put (cs := #[.bool ((rd_T53 ((rd_T62 l0 x4_1).f0) x6_2).f0), .slice A107_1 ((rd_T53 ((rd_T62 l0 x4_1).f0) x6_2).f1).length c107_1, .int .i64 0, .slice none 0 0, .slice none 0 0, .slice none 0 0]) ?_ 2 _ rfl; (with_reducible repeat (first | refine blk_drewN ?_ _ | refine blk_drew ?_ | refine blk_alloc ?_ _)); refine blk_put (cs := #[.bool ((rd_T53 ((rd_T62 l0 x4_1).f0) x6_2).f0), .slice none 0 0, .int .i64 0, .slice none 0 0, .slice none 0 0, .slice none 0 0]) ?_ 1 _ rfl; (with_reducible repeat (first | refine blk_drewN ?_ _ | refine blk_drew ?_ | refine blk_alloc ?_ _)); refine blk_put (cs := #[.bool false, .slice none 0 0, .int .i64 0, .slice none 0 0, .slice none 0 0, .slice none 0 0]) ?_ 0 _ rfl; (with_reducible repeat (first | refine blk_drewN ?_ _ | refine blk_drew ?_ | refine blk_alloc ?_ _)); exact BK108.out)) : gb108 ≠ gb109)); have n11_ := Aside0.mk ((by rw [hg]; exact Nat.ne_of_gt (blk_lt (g := gb108) (o := .cells #[.bool ((rd_T53 ((rd_T62 l0 x4_1).f0) x6_2).f0), .slice A107_1 ((rd_T53 ((rd_T62 l0 x4_1).f0) x6_2).f1).length c107_1, .int .i64 ((rd_T53 ((rd_T62 l0 x4_1).f0) x6_2).f2.f0), .slice A107_3 ((rd_T53 ((rd_T62 l0 x4_1).f0) x6_2).f2.f1).length c107_3, .slice A107_4 ((rd_T53 ((rd_T62 l0 x4_1).f0) x6_2).f2.f2).length c107_4, .slice A107_5 ((rd_T53 ((rd_T62 l0 x4_1).f0) x6_2).f2.f3).length c107_5] 53 (0, 0)) (by (with_reducible repeat (first | refine blk_drewN ?_ _ | refine blk_drew ?_ | refine blk_alloc ?_ _)); refine blk_put (cs := #[.bool ((rd_T53 ((rd_T62 l0 x4_1).f0) x6_2).f0), .slice A107_1 ((rd_T53 ((rd_T62 l0 x4_1).f0) x6_2).f1).length c107_1, .int .i64 ((rd_T53 ((rd_T62 l0 x4_1).f0) x6_2).f2.f0), .slice A107_3 ((rd_T53 ((rd_T62 l0 x4_1).f0) x6_2).f2.f1).length c107_3, .slice A107_4 ((rd_T53 ((rd_T62 l0 x4_1).f0) x6_2).f2.f2).length c107_4, .slice none 0 0]) ?_ 5 _ rfl; (with_reducible repeat (first | refine blk_drewN ?_ _ | refine blk_drew ?_ | refine blk_alloc ?_ _)); refine blk_put (cs := #[.bool ((rd_T53 ((rd_T62 l0 x4_1).f0) x6_2).f0), .slice A107_1 ((rd_T53 ((rd_T62 l0 x4_1).f0) x6_2).f1).length c107_1, .int .i64 ((rd_T53 ((rd_T62 l0 x4_1).f0) x6_2).f2.f0), .slice A107_3 ((rd_T53 ((rd_T62 l0 x4_1).f0) x6_2).f2.f1).length c107_3, .slice none 0 0, .slice none 0 0]) ?_ 4 _ rfl; (with_reducible repeat (first | refine blk_drewN ?_ _ | refine blk_drew ?_ | refine blk_alloc ?_ _)); refine blk_put (cs := #[.bool ((rd_T53 ((rd_T62 l0 x4_1).f0) x6_2).f0), .slice A107_1 ((rd_T53 ((rd_T62 l0 x4_1).f0) x6_2).f1).length c107_1, .int .i64 ((rd_T53 ((rd_T62 l0 x4_1).f0) x6_2).f2.f0), .slice none 0 0, .slice none 0 0, .slice none 0 0]) ?_ 3 _ rfl; (with_reducible repeat (first | refine blk_drewN ?_ _ | refine blk_drew ?_ | refine blk_alloc ?_ _)); refine blk_put (cs := #[.bool ((rd_T53 ((rd_T62 l0 x4_1).f0) x6_2).f0), .slice A107_1 ((rd_T53 ((rd_T62 l0 x4_1).f0) x6_2).f1).length c107_1, .int .i64 0, .slice none 0 0, .slice none 0 0, .slice none 0 0]) ?_ 2 _ rfl; (with_reducible repeat (first | refine blk_drewN ?_ _ | refine blk_drew ?_ | refine blk_alloc ?_ _)); refine blk_put (cs := #[.bool ((rd_T53 ((rd_T62 l0 x4_1).f0) x6_2).f0), .slice none 0 0, .int .i64 0, .slice none 0 0, .slice none 0 0, .slice none 0 0]) ?_ 1 _ rfl; (with_reducible repeat (first | refine blk_drewN ?_ _ | refine blk_drew ?_ | refine blk_alloc ?_ _)); refine blk_put (cs := #[.bool false, .slice none 0 0, .int .i64 0, .slice none 0 0, .slice none 0 0, .slice none 0 0]) ?_ 0 _ rfl; (with_reducible repeat (first | refine blk_drewN ?_ _ | refine blk_drew ?_ | refine blk_alloc ?_ _)); exact BK108.out)) : gb109 ≠ gb108)); clear HO_3; clear HO_105000; clear BK104; clear BK108; clear HB; have HO_3 := n0_; have HO_105000 := n1_; have BK104 := n2_; have BK108 := n3_; have HB := n4_; have BK109 := n5_; have GW109 := n6_; have GE109 := n7_; have NB104_109 := n8_; have NB109_104 := n9_; have NB108_109 := n10_; have NB109_108 := n11_; clear n0_ n1_ n2_ n3_ n4_ n5_ n6_ n7_ n8_ n9_ n10_ n11_; clear hb hbox hg; have hnb19 := NB108_109.out; have hnc19 := NB109_108.out; have hcz20_0 : w18.cell? ⟨gb108, 0, none⟩ = some (.bool ((rd_T53 ((rd_T62 l0 x4_1).f0) x6_2).f0)) := (blk_cell BK108.out 0).trans rfl; have hcz20_1 : w18.cell? ⟨gb108, 1, none⟩ = some (.slice A107_1 ((rd_T53 ((rd_T62 l0 x4_1).f0) x6_2).f1).length c107_1) := (blk_cell BK108.out 1).trans rfl; have hcz20_2 : w18.cell? ⟨gb108, 2, none⟩ = some (.int .i64 ((rd_T53 ((rd_T62 l0 x4_1).f0) x6_2).f2.f0)) := (blk_cell BK108.out 2).trans rfl; have hcz20_3 : w18.cell? ⟨gb108, 3, none⟩ = some (.slice A107_3 ((rd_T53 ((rd_T62 l0 x4_1).f0) x6_2).f2.f1).length c107_3) := (blk_cell BK108.out 3).trans rfl; have hcz20_4 : w18.cell? ⟨gb108, 4, none⟩ = some (.slice A107_4 ((rd_T53 ((rd_T62 l0 x4_1).f0) x6_2).f2.f2).length c107_4) := (blk_cell BK108.out 4).trans rfl; have hcz20_5 : w18.cell? ⟨gb108, 5, none⟩ = some (.slice A107_5 ((rd_T53 ((rd_T62 l0 x4_1).f0) x6_2).f2.f3).length c107_5) := (blk_cell BK108.out 5).trans rfl; have hfz20_0 := blk_frozen BK108.out 0; have hfz20_1 := blk_frozen BK108.out 1; have hfz20_2 := blk_frozen BK108.out 2; have hfz20_3 := blk_frozen BK108.out 3; have hfz20_4 := blk_frozen BK108.out 4; have hfz20_5 := blk_frozen BK108.out 5; have hnb21 := NB109_104.out; have hnc21 := NB104_109.out; have hcz22_0 : w18.cell? ⟨gb109, 0, none⟩ = some (.bool false) := (blk_cell BK109.out 0).trans rfl; have hcz22_1 : w18.cell? ⟨gb109, 1, none⟩ = some (.slice none 0 0) := (blk_cell BK109.out 1).trans rfl; have hcz22_2 : w18.cell? ⟨gb109, 2, none⟩ = some (.int .i64 0) := (blk_cell BK109.out 2).trans rfl; have hcz22_3 : w18.cell? ⟨gb109, 3, none⟩ = some (.slice none 0 0) := (blk_cell BK109.out 3).trans rfl; have hcz22_4 : w18.cell? ⟨gb109, 4, none⟩ = some (.slice none 0 0) := (blk_cell BK109.out 4).trans rfl; have hcz22_5 : w18.cell? ⟨gb109, 5, none⟩ = some (.slice none 0 0) := (blk_cell BK109.out 5).trans rfl; have hfz22_0 := blk_frozen BK109.out 0; have hfz22_1 := blk_frozen BK109.out 1; have hfz22_2 := blk_frozen BK109.out 2; have hfz22_3 := blk_frozen BK109.out 3; have hfz22_4 := blk_frozen BK109.out 4; have hfz22_5 := blk_frozen BK109.out 5) | ((with_reducible refine gate_builtin (b := .append) (xs := #[.tmp 43, .tmp 45]) rfl ?_); at_builtin; refine Kd.R_append_rows (Kd.int .i64) (w0 := w) w.heap.size rfl (.tmp 43) (.tmp 45) 37 3 (.int .i64 0) 8 rfl Tryd.underlying37 info3 rfl (by decide) (by omega) (.slice none 0 0) ([] : List Int) ((rd_T53 ((rd_T62 l0 x4_1).f0) x6_2).f1) _ _ _ (fun _ => True) (fun _ => False) rfl rfl ?aO ?aR (fun _ _ h => h) (fun _ h => h.elim) ?aF ?aB ?aS ?aL ?_; (case aR => exact Kd.C_below HR107_1.out (by repeat (first | (with_reducible first | exact HB.out | apply below_alloc | apply pw_below_drewN | apply below_drew1 | refine below_set ?_ GE104.out | refine below_set ?_ GE108.out | refine below_set ?_ GE109.out) | exact HB.out))); (case aB => exact (by repeat (first | (with_reducible first | exact HB.out | apply below_alloc | apply pw_below_drewN | apply below_drew1 | refine below_set ?_ GE104.out | refine below_set ?_ GE108.out | refine below_set ?_ GE109.out) | exact HB.out))); (case aF => exact (fun _ _ => trivial)); (case aO => exact ((Kd.R_nil _ _ _ _ (fun _ => True)))); (case aS => exact (below_size (by repeat (first | (with_reducible first | exact HB.out | apply below_alloc | apply pw_below_drewN | apply below_drew1 | refine below_set ?_ GE104.out | refine below_set ?_ GE108.out | refine below_set ?_ GE109.out) | exact HB.out)))); (case aL => have := LMc10.out; omega); intro v111 w23 ho hb hg hat; rw [← Ny110.out] at ho; have n0_ := Aside0.mk (Kd.R_after (Kd.R_apart_nil (by (with_reducible repeat (first | apply Kd.R_alloc | apply Kd.R_drewN | apply Kd.R_drew)); exact (Kd.R_mono (Kd.R_far (p := ⟨gb109, 0, none⟩) (Kd.R_mono HO_3.out (fun k_ hk => (⟨hk, hk.2⟩ : _ ∧ k_ ≠ gb109))) (fun _ hk => hk.2) (.bool ((rd_T53 ((rd_T62 l0 x4_1).f0) x6_2).f0))) (fun _ h_ => h_.1)))) hg hat); have n1_ := Aside0.mk (Kd.S_after (Kd.S_apart_nil (by (with_reducible repeat (first | apply Kd.S_alloc | apply Kd.S_drewN | apply Kd.S_drew)); exact (Kd.S_mono (Kd.S_far (p := ⟨gb109, 0, none⟩) (Kd.S_mono HO_105000.out (fun k_ hk => (⟨hk, hk.2⟩ : _ ∧ k_ ≠ gb109))) (fun _ hk => hk.2) (.bool ((rd_T53 ((rd_T62 l0 x4_1).f0) x6_2).f0))) (fun _ h_ => h_.1)))) hg hat); have n2_ := Aside0.mk (blk_grown (g := gb104) (o := .cells #[u105000, .bool ((rd_T62 l0 x4_1).f1)] 62 (0, 0)) (by (with_reducible repeat (first | refine blk_drewN ?_ _ | refine blk_drew ?_ | refine blk_alloc ?_ _)); refine blk_far ?_ NB104_109.out _; (with_reducible repeat (first | refine blk_drewN ?_ _ | refine blk_drew ?_ | refine blk_alloc ?_ _)); exact BK104.out) hg (by simp [Value.ownBlock])); have n3_ := Aside0.mk (blk_grown (g := gb108) (o := .cells #[.bool ((rd_T53 ((rd_T62 l0 x4_1).f0) x6_2).f0), .slice A107_1 ((rd_T53 ((rd_T62 l0 x4_1).f0) x6_2).f1).length c107_1, .int .i64 ((rd_T53 ((rd_T62 l0 x4_1).f0) x6_2).f2.f0), .slice A107_3 ((rd_T53 ((rd_T62 l0 x4_1).f0) x6_2).f2.f1).length c107_3, .slice A107_4 ((rd_T53 ((rd_T62 l0 x4_1).f0) x6_2).f2.f2).length c107_4, .slice A107_5 ((rd_T53 ((rd_T62 l0 x4_1).f0) x6_2).f2.f3).length c107_5] 53 (0, 0)) (by (with_reducible repeat (first | refine blk_drewN ?_ _ | refine blk_drew ?_ | refine blk_alloc ?_ _)); refine blk_far ?_ NB108_109.out _; (with_reducible repeat (first | refine blk_drewN ?_ _ | refine blk_drew ?_ | refine blk_alloc ?_ _)); exact BK108.out) hg (by simp [Value.ownBlock])); have n4_ := Aside0.mk (blk_grown (g := gb109) (o := .cells #[.bool ((rd_T53 ((rd_T62 l0 x4_1).f0) x6_2).f0), .slice none 0 0, .int .i64 0, .slice none 0 0, .slice none 0 0, .slice none 0 0] 53 (0, 0)) (by (with_reducible repeat (first | refine blk_drewN ?_ _ | refine blk_drew ?_ | refine blk_alloc ?_ _)); refine blk_put (cs := #[.bool false, .slice none 0 0, .int .i64 0, .slice none 0 0, .slice none 0 0, .slice none 0 0]) ?_ 0 _ rfl; (with_reducible repeat (first | refine blk_drewN ?_ _ | refine blk_drew ?_ | refine blk_alloc ?_ _)); exact BK109.out) hg (by simp [Value.ownBlock])); have n5_ := Aside0.mk (hb); have n6_ := Aside0.mk (ho); clear HO_3; clear HO_105000; clear BK104; clear BK108; clear BK109; clear HB; have HO_3 := n0_; have HO_105000 := n1_; have BK104 := n2_; have BK108 := n3_; have BK109 := n4_; have HB := n5_; have HO112 := n6_; clear n0_ n1_ n2_ n3_ n4_ n5_ n6_; clear ho hb hg hat; obtain ⟨Ao24, co24, eo24⟩ := Kd.R_slice HO112.out; subst eo24; have hcz25_0 : w23.cell? ⟨gb109, 0, none⟩ = some (.bool ((rd_T53 ((rd_T62 l0 x4_1).f0) x6_2).f0)) := (blk_cell BK109.out 0).trans rfl; have hcz25_1 : w23.cell? ⟨gb109, 1, none⟩ = some (.slice none 0 0) := (blk_cell BK109.out 1).trans rfl; have hcz25_2 : w23.cell? ⟨gb109, 2, none⟩ = some (.int .i64 0) := (blk_cell BK109.out 2).trans rfl; have hcz25_3 : w23.cell? ⟨gb109, 3, none⟩ = some (.slice none 0 0) := (blk_cell BK109.out 3).trans rfl; have hcz25_4 : w23.cell? ⟨gb109, 4, none⟩ = some (.slice none 0 0) := (blk_cell BK109.out 4).trans rfl; have hcz25_5 : w23.cell? ⟨gb109, 5, none⟩ = some (.slice none 0 0) := (blk_cell BK109.out 5).trans rfl; have hfz25_0 := blk_frozen BK109.out 0; have hfz25_1 := blk_frozen BK109.out 1; have hfz25_2 := blk_frozen BK109.out 2; have hfz25_3 := blk_frozen BK109.out 3; have hfz25_4 := blk_frozen BK109.out 4; have hfz25_5 := blk_frozen BK109.out 5; have hcz26_0 : w23.cell? ⟨gb108, 0, none⟩ = some (.bool ((rd_T53 ((rd_T62 l0 x4_1).f0) x6_2).f0)) := (blk_cell BK108.out 0).trans rfl; have hcz26_1 : w23.cell? ⟨gb108, 1, none⟩ = some (.slice A107_1 ((rd_T53 ((rd_T62 l0 x4_1).f0) x6_2).f1).length c107_1) := (blk_cell BK108.out 1).trans rfl; have hcz26_2 : w23.cell? ⟨gb108, 2, none⟩ = some (.int .i64 ((rd_T53 ((rd_T62 l0 x4_1).f0) x6_2).f2.f0)) := (blk_cell BK108.out 2).trans rfl; have hcz26_3 : w23.cell? ⟨gb108, 3, none⟩ = some (.slice A107_3 ((rd_T53 ((rd_T62 l0 x4_1).f0) x6_2).f2.f1).length c107_3) := (blk_cell BK108.out 3).trans rfl; have hcz26_4 : w23.cell? ⟨gb108, 4, none⟩ = some (.slice A107_4 ((rd_T53 ((rd_T62 l0 x4_1).f0) x6_2).f2.f2).length c107_4) := (blk_cell BK108.out 4).trans rfl; have hcz26_5 : w23.cell? ⟨gb108, 5, none⟩ = some (.slice A107_5 ((rd_T53 ((rd_T62 l0 x4_1).f0) x6_2).f2.f3).length c107_5) := (blk_cell BK108.out 5).trans rfl; have hfz26_0 := blk_frozen BK108.out 0; have hfz26_1 := blk_frozen BK108.out 1; have hfz26_2 := blk_frozen BK108.out 2; have hfz26_3 := blk_frozen BK108.out 3; have hfz26_4 := blk_frozen BK108.out 4; have hfz26_5 := blk_frozen BK108.out 5) | ((with_reducible refine gate_builtin (b := .append) (xs := #[.tmp 55, .tmp 58]) rfl ?_); at_builtin; refine Kd.R_append_rows k74 (w0 := w) w.heap.size rfl (.tmp 55) (.tmp 58) 48 74 (.agg #[(.int .i64 0), (.bool false), (.int .i64 0)]) 24 rfl Tryd.underlying48 info74 rfl (by decide) (by omega) (.slice none 0 0) ([] : List (S74)) ((rd_T53 ((rd_T62 l0 x4_1).f0) x6_2).f2.f1) _ _ _ (fun _ => True) (fun _ => False) rfl rfl ?aO ?aR (fun _ _ h => h) (fun _ h => h.elim) ?aF ?aB ?aS ?aL ?_; (case aR => exact Kd.C_below HR107_3.out (by repeat (first | (with_reducible first | exact HB.out | apply below_alloc | apply pw_below_drewN | apply below_drew1 | refine below_set ?_ GE104.out | refine below_set ?_ GE108.out | refine below_set ?_ GE109.out) | exact HB.out))); (case aB => exact (by repeat (first | (with_reducible first | exact HB.out | apply below_alloc | apply pw_below_drewN | apply below_drew1 | refine below_set ?_ GE104.out | refine below_set ?_ GE108.out | refine below_set ?_ GE109.out) | exact HB.out))); (case aF => exact (fun _ _ => trivial)); (case aO => exact ((Kd.R_nil _ _ _ _ (fun _ => True)))); (case aS => exact (below_size (by repeat (first | (with_reducible first | exact HB.out | apply below_alloc | apply pw_below_drewN | apply below_drew1 | refine below_set ?_ GE104.out | refine below_set ?_ GE108.out | refine below_set ?_ GE109.out) | exact HB.out)))); (case aL => have := LMc11.out; omega); intro v114 w27 ho hb hg hat; rw [← Ny113.out] at ho; have n0_ := Aside0.mk (Kd.R_after (Kd.R_apart_nil (by (with_reducible repeat (first | apply Kd.R_alloc | apply Kd.R_drewN | apply Kd.R_drew)); exact (Kd.R_mono (Kd.R_far (p := ⟨gb109, 2, none⟩) (Kd.R_far (p := ⟨gb109, 1, none⟩) (Kd.R_mono HO_3.out (fun k_ hk => (⟨hk, hk.1.2⟩ : _ ∧ k_ ≠ gb109))) (fun _ hk => hk.2) (.slice Ao24 y110.length co24)) (fun _ hk => hk.2) (.int .i64 ((rd_T53 ((rd_T62 l0 x4_1).f0) x6_2).f2.f0))) (fun _ h_ => h_.1)))) hg hat); have n1_ := Aside0.mk (Kd.S_after (Kd.S_apart_nil (by (with_reducible repeat (first | apply Kd.S_alloc | apply Kd.S_drewN | apply Kd.S_drew)); exact (Kd.S_mono (Kd.S_far (p := ⟨gb109, 2, none⟩) (Kd.S_far (p := ⟨gb109, 1, none⟩) (Kd.S_mono HO_105000.out (fun k_ hk => (⟨hk, hk.1.2⟩ : _ ∧ k_ ≠ gb109))) (fun _ hk => hk.2) (.slice Ao24 y110.length co24)) (fun _ hk => hk.2) (.int .i64 ((rd_T53 ((rd_T62 l0 x4_1).f0) x6_2).f2.f0))) (fun _ h_ => h_.1)))) hg hat); have n2_ := Aside0.mk (blk_grown (g := gb104) (o := .cells #[u105000, .bool ((rd_T62 l0 x4_1).f1)] 62 (0, 0)) (by (with_reducible repeat (first | refine blk_drewN ?_ _ | refine blk_drew ?_ | refine blk_alloc ?_ _)); refine blk_far ?_ NB104_109.out _; (with_reducible repeat (first | refine blk_drewN ?_ _ | refine blk_drew ?_ | refine blk_alloc ?_ _)); refine blk_far ?_ NB104_109.out _; (with_reducible repeat (first | refine blk_drewN ?_ _ | refine blk_drew ?_ | refine blk_alloc ?_ _)); exact BK104.out) hg (by simp [Value.ownBlock])); have n3_ := Aside0.mk (blk_grown (g := gb108) (o := .cells #[.bool ((rd_T53 ((rd_T62 l0 x4_1).f0) x6_2).f0), .slice A107_1 ((rd_T53 ((rd_T62 l0 x4_1).f0) x6_2).f1).length c107_1, .int .i64 ((rd_T53 ((rd_T62 l0 x4_1).f0) x6_2).f2.f0), .slice A107_3 ((rd_T53 ((rd_T62 l0 x4_1).f0) x6_2).f2.f1).length c107_3, .slice A107_4 ((rd_T53 ((rd_T62 l0 x4_1).f0) x6_2).f2.f2).length c107_4, .slice A107_5 ((rd_T53 ((rd_T62 l0 x4_1).f0) x6_2).f2.f3).length c107_5] 53 (0, 0)) (by (with_reducible repeat (first | refine blk_drewN ?_ _ | refine blk_drew ?_ | refine blk_alloc ?_ _)); refine blk_far ?_ NB108_109.out _; (with_reducible repeat (first | refine blk_drewN ?_ _ | refine blk_drew ?_ | refine blk_alloc ?_ _)); refine blk_far ?_ NB108_109.out _; (with_reducible repeat (first | refine blk_drewN ?_ _ | refine blk_drew ?_ | refine blk_alloc ?_ _)); exact BK108.out) hg (by simp [Value.ownBlock])); have n4_ := Aside0.mk (blk_grown (g := gb109) (o := .cells #[.bool ((rd_T53 ((rd_T62 l0 x4_1).f0) x6_2).f0), .slice Ao24 y110.length co24, .int .i64 ((rd_T53 ((rd_T62 l0 x4_1).f0) x6_2).f2.f0), .slice none 0 0, .slice none 0 0, .slice none 0 0] 53 (0, 0)) (by (with_reducible repeat (first | refine blk_drewN ?_ _ | refine blk_drew ?_ | refine blk_alloc ?_ _)); refine blk_put (cs := #[.bool ((rd_T53 ((rd_T62 l0 x4_1).f0) x6_2).f0), .slice Ao24 y110.length co24, .int .i64 0, .slice none 0 0, .slice none 0 0, .slice none 0 0]) ?_ 2 _ rfl; (with_reducible repeat (first | refine blk_drewN ?_ _ | refine blk_drew ?_ | refine blk_alloc ?_ _)); refine blk_put (cs := #[.bool ((rd_T53 ((rd_T62 l0 x4_1).f0) x6_2).f0), .slice none 0 0, .int .i64 0, .slice none 0 0, .slice none 0 0, .slice none 0 0]) ?_ 1 _ rfl; (with_reducible repeat (first | refine blk_drewN ?_ _ | refine blk_drew ?_ | refine blk_alloc ?_ _)); exact BK109.out) hg (by simp [Value.ownBlock])); have n5_ := Aside0.mk (Kd.R_grown (by (with_reducible repeat (first | apply Kd.R_alloc | apply Kd.R_drewN | apply Kd.R_drew)); exact (Kd.R_mono (Kd.R_far (p := ⟨gb109, 2, none⟩) (Kd.R_far (p := ⟨gb109, 1, none⟩) (Kd.R_types HO112.out BK109.out (by decide)) (fun _ hk => hk.2) (.slice Ao24 y110.length co24)) (fun _ hk => hk.2) (.int .i64 ((rd_T53 ((rd_T62 l0 x4_1).f0) x6_2).f2.f0))) (fun _ h_ => h_.1))) hg (fun _ _ => by simp [Value.ownBlock])); have n6_ := Aside0.mk (hb); have n7_ := Aside0.mk (ho); clear HO_3; clear HO_105000; clear BK104; clear BK108; clear BK109; clear HO112; clear HB; have HO_3 := n0_; have HO_105000 := n1_; have BK104 := n2_; have BK108 := n3_; have BK109 := n4_; have HO112 := n5_; have HB := n6_; have HO115 := n7_; clear n0_ n1_ n2_ n3_ n4_ n5_ n6_ n7_; clear ho hb hg hat; obtain ⟨Ao28, co28, eo28⟩ := Kd.R_slice HO115.out; subst eo28; have hcz29_0 : w27.cell? ⟨gb109, 0, none⟩ = some (.bool ((rd_T53 ((rd_T62 l0 x4_1).f0) x6_2).f0)) := (blk_cell BK109.out 0).trans rfl; have hcz29_1 : w27.cell? ⟨gb109, 1, none⟩ = some (.slice Ao24 y110.length co24) := (blk_cell BK109.out 1).trans rfl; have hcz29_2 : w27.cell? ⟨gb109, 2, none⟩ = some (.int .i64 ((rd_T53 ((rd_T62 l0 x4_1).f0) x6_2).f2.f0)) := (blk_cell BK109.out 2).trans rfl; have hcz29_3 : w27.cell? ⟨gb109, 3, none⟩ = some (.slice none 0 0) := (blk_cell BK109.out 3).trans rfl; have hcz29_4 : w27.cell? ⟨gb109, 4, none⟩ = some (.slice none 0 0) := (blk_cell BK109.out 4).trans rfl; have hcz29_5 : w27.cell? ⟨gb109, 5, none⟩ = some (.slice none 0 0) := (blk_cell BK109.out 5).trans rfl; have hfz29_0 := blk_frozen BK109.out 0; have hfz29_1 := blk_frozen BK109.out 1; have hfz29_2 := blk_frozen BK109.out 2; have hfz29_3 := blk_frozen BK109.out 3; have hfz29_4 := blk_frozen BK109.out 4; have hfz29_5 := blk_frozen BK109.out 5; have hcz30_0 : w27.cell? ⟨gb108, 0, none⟩ = some (.bool ((rd_T53 ((rd_T62 l0 x4_1).f0) x6_2).f0)) := (blk_cell BK108.out 0).trans rfl; have hcz30_1 : w27.cell? ⟨gb108, 1, none⟩ = some (.slice A107_1 ((rd_T53 ((rd_T62 l0 x4_1).f0) x6_2).f1).length c107_1) := (blk_cell BK108.out 1).trans rfl; have hcz30_2 : w27.cell? ⟨gb108, 2, none⟩ = some (.int .i64 ((rd_T53 ((rd_T62 l0 x4_1).f0) x6_2).f2.f0)) := (blk_cell BK108.out 2).trans rfl; have hcz30_3 : w27.cell? ⟨gb108, 3, none⟩ = some (.slice A107_3 ((rd_T53 ((rd_T62 l0 x4_1).f0) x6_2).f2.f1).length c107_3) := (blk_cell BK108.out 3).trans rfl; have hcz30_4 : w27.cell? ⟨gb108, 4, none⟩ = some (.slice A107_4 ((rd_T53 ((rd_T62 l0 x4_1).f0) x6_2).f2.f2).length c107_4) := (blk_cell BK108.out 4).trans rfl; have hcz30_5 : w27.cell? ⟨gb108, 5, none⟩ = some (.slice A107_5 ((rd_T53 ((rd_T62 l0 x4_1).f0) x6_2).f2.f3).length c107_5) := (blk_cell BK108.out 5).trans rfl; have hfz30_0 := blk_frozen BK108.out 0; have hfz30_1 := blk_frozen BK108.out 1; have hfz30_2 := blk_frozen BK108.out 2; have hfz30_3 := blk_frozen BK108.out 3; have hfz30_4 := blk_frozen BK108.out 4; have hfz30_5 := blk_frozen BK108.out 5) | ((with_reducible refine gate_builtin (b := .append) (xs := #[.tmp 64, .tmp 67]) rfl ?_); at_builtin; refine Kd.R_append_rows k74 (w0 := w) w.heap.size rfl (.tmp 64) (.tmp 67) 48 74 (.agg #[(.int .i64 0), (.bool false), (.int .i64 0)]) 24 rfl Tryd.underlying48 info74 rfl (by decide) (by omega) (.slice none 0 0) ([] : List (S74)) ((rd_T53 ((rd_T62 l0 x4_1).f0) x6_2).f2.f2) _ _ _ (fun k_ => some k_ ≠ (.slice Ao28 y113.length co28 : Value).ownBlock) (fun _ => False) rfl rfl ?aO ?aR (fun _ _ h => h) (fun _ h => h.elim) ?aF ?aB ?aS ?aL ?_; (case aR => exact Kd.C_below HR107_4.out (by repeat (first | (with_reducible first | exact HB.out | apply below_alloc | apply pw_below_drewN | apply below_drew1 | refine below_set ?_ GE104.out | refine below_set ?_ GE108.out | refine below_set ?_ GE109.out) | exact HB.out))); (case aB => exact (by repeat (first | (with_reducible first | exact HB.out | apply below_alloc | apply pw_below_drewN | apply below_drew1 | refine below_set ?_ GE104.out | refine below_set ?_ GE108.out | refine below_set ?_ GE109.out) | exact HB.out))); (case aF => exact (fun k_ hk => Kd.fresh' (Kd.R_lt (by (with_reducible repeat (first | apply Kd.R_alloc | apply Kd.R_drewN | apply Kd.R_drew)); exact (Kd.R_mono (Kd.R_far (p := ⟨gb109, 3, none⟩) (Kd.R_types HO115.out BK109.out (by decide)) (fun _ hk => hk.2) (.slice Ao28 y113.length co28)) (fun _ h_ => h_.1)))) k_ hk)); (case aO => exact ((Kd.R_nil _ _ _ _ (fun k_ => some k_ ≠ (.slice Ao28 y113.length co28 : Value).ownBlock)))); (case aS => exact (below_size (by repeat (first | (with_reducible first | exact HB.out | apply below_alloc | apply pw_below_drewN | apply below_drew1 | refine below_set ?_ GE104.out | refine below_set ?_ GE108.out | refine below_set ?_ GE109.out) | exact HB.out)))); (case aL => have := LMc12.out; omega); intro v117 w31 ho hb hg hat; rw [← Ny116.out] at ho; have n0_ := Aside0.mk (Kd.R_after (Kd.R_apart_nil (by (with_reducible repeat (first | apply Kd.R_alloc | apply Kd.R_drewN | apply Kd.R_drew)); exact (Kd.R_mono (Kd.R_far (p := ⟨gb109, 3, none⟩) (Kd.R_mono HO_3.out (fun k_ hk => (⟨hk, hk.1.1.2⟩ : _ ∧ k_ ≠ gb109))) (fun _ hk => hk.2) (.slice Ao28 y113.length co28)) (fun _ h_ => h_.1)))) hg hat); have n1_ := Aside0.mk (Kd.S_after (Kd.S_apart_nil (by (with_reducible repeat (first | apply Kd.S_alloc | apply Kd.S_drewN | apply Kd.S_drew)); exact (Kd.S_mono (Kd.S_far (p := ⟨gb109, 3, none⟩) (Kd.S_mono HO_105000.out (fun k_ hk => (⟨hk, hk.1.1.2⟩ : _ ∧ k_ ≠ gb109))) (fun _ hk => hk.2) (.slice Ao28 y113.length co28)) (fun _ h_ => h_.1)))) hg hat); have n2_ := Aside0.mk (blk_grown (g := gb104) (o := .cells #[u105000, .bool ((rd_T62 l0 x4_1).f1)] 62 (0, 0)) (by (with_reducible repeat (first | refine blk_drewN ?_ _ | refine blk_drew ?_ | refine blk_alloc ?_ _)); refine blk_far ?_ NB104_109.out _; (with_reducible repeat (first | refine blk_drewN ?_ _ | refine blk_drew ?_ | refine blk_alloc ?_ _)); exact BK104.out) hg (by simp [Value.ownBlock])); have n3_ := Aside0.mk (blk_grown (g := gb108) (o := .cells #[.bool ((rd_T53 ((rd_T62 l0 x4_1).f0) x6_2).f0), .slice A107_1 ((rd_T53 ((rd_T62 l0 x4_1).f0) x6_2).f1).length c107_1, .int .i64 ((rd_T53 ((rd_T62 l0 x4_1).f0) x6_2).f2.f0), .slice A107_3 ((rd_T53 ((rd_T62 l0 x4_1).f0) x6_2).f2.f1).length c107_3, .slice A107_4 ((rd_T53 ((rd_T62 l0 x4_1).f0) x6_2).f2.f2).length c107_4, .slice A107_5 ((rd_T53 ((rd_T62 l0 x4_1).f0) x6_2).f2.f3).length c107_5] 53 (0, 0)) (by (with_reducible repeat (first | refine blk_drewN ?_ _ | refine blk_drew ?_ | refine blk_alloc ?_ _)); refine blk_far ?_ NB108_109.out _; (with_reducible repeat (first | refine blk_drewN ?_ _ | refine blk_drew ?_ | refine blk_alloc ?_ _)); exact BK108.out) hg (by simp [Value.ownBlock])); have n4_ := Aside0.mk (blk_grown (g := gb109) (o := .cells #[.bool ((rd_T53 ((rd_T62 l0 x4_1).f0) x6_2).f0), .slice Ao24 y110.length co24, .int .i64 ((rd_T53 ((rd_T62 l0 x4_1).f0) x6_2).f2.f0), .slice Ao28 y113.length co28, .slice none 0 0, .slice none 0 0] 53 (0, 0)) (by (with_reducible repeat (first | refine blk_drewN ?_ _ | refine blk_drew ?_ | refine blk_alloc ?_ _)); refine blk_put (cs := #[.bool ((rd_T53 ((rd_T62 l0 x4_1).f0) x6_2).f0), .slice Ao24 y110.length co24, .int .i64 ((rd_T53 ((rd_T62 l0 x4_1).f0) x6_2).f2.f0), .slice none 0 0, .slice none 0 0, .slice none 0 0]) ?_ 3 _ rfl; (with_reducible repeat (first | refine blk_drewN ?_ _ | refine blk_drew ?_ | refine blk_alloc ?_ _)); exact BK109.out) hg (by simp [Value.ownBlock])); have n5_ := Aside0.mk (Kd.R_grown (by (with_reducible repeat (first | apply Kd.R_alloc | apply Kd.R_drewN | apply Kd.R_drew)); exact (Kd.R_mono (Kd.R_far (p := ⟨gb109, 3, none⟩) (Kd.R_types HO112.out BK109.out (by decide)) (fun _ hk => hk.2) (.slice Ao28 y113.length co28)) (fun _ h_ => h_.1))) hg (fun _ _ => by simp [Value.ownBlock])); have n6_ := Aside0.mk (Kd.R_after (Kd.R_apart_nil (by (with_reducible repeat (first | apply Kd.R_alloc | apply Kd.R_drewN | apply Kd.R_drew)); exact (Kd.R_mono (Kd.R_far (p := ⟨gb109, 3, none⟩) (Kd.R_types HO115.out BK109.out (by decide)) (fun _ hk => hk.2) (.slice Ao28 y113.length co28)) (fun _ h_ => h_.1)))) hg hat); have n7_ := Aside0.mk (hb); have n8_ := Aside0.mk (ho); clear HO_3; clear HO_105000; clear BK104; clear BK108; clear BK109; clear HO112; clear HO115; clear HB; have HO_3 := n0_; have HO_105000 := n1_; have BK104 := n2_; have BK108 := n3_; have BK109 := n4_; have HO112 := n5_; have HO115 := n6_; have HB := n7_; have HO118 := n8_; clear n0_ n1_ n2_ n3_ n4_ n5_ n6_ n7_ n8_; clear ho hb hg hat; obtain ⟨Ao32, co32, eo32⟩ := Kd.R_slice HO118.out; subst eo32; have hcz33_0 : w31.cell? ⟨gb109, 0, none⟩ = some (.bool ((rd_T53 ((rd_T62 l0 x4_1).f0) x6_2).f0)) := (blk_cell BK109.out 0).trans rfl; have hcz33_1 : w31.cell? ⟨gb109, 1, none⟩ = some (.slice Ao24 y110.length co24) := (blk_cell BK109.out 1).trans rfl; have hcz33_2 : w31.cell? ⟨gb109, 2, none⟩ = some (.int .i64 ((rd_T53 ((rd_T62 l0 x4_1).f0) x6_2).f2.f0)) := (blk_cell BK109.out 2).trans rfl; have hcz33_3 : w31.cell? ⟨gb109, 3, none⟩ = some (.slice Ao28 y113.length co28) := (blk_cell BK109.out 3).trans rfl; have hcz33_4 : w31.cell? ⟨gb109, 4, none⟩ = some (.slice none 0 0) := (blk_cell BK109.out 4).trans rfl; have hcz33_5 : w31.cell? ⟨gb109, 5, none⟩ = some (.slice none 0 0) := (blk_cell BK109.out 5).trans rfl; have hfz33_0 := blk_frozen BK109.out 0; have hfz33_1 := blk_frozen BK109.out 1; have hfz33_2 := blk_frozen BK109.out 2; have hfz33_3 := blk_frozen BK109.out 3; have hfz33_4 := blk_frozen BK109.out 4; have hfz33_5 := blk_frozen BK109.out 5; have hcz34_0 : w31.cell? ⟨gb108, 0, none⟩ = some (.bool ((rd_T53 ((rd_T62 l0 x4_1).f0) x6_2).f0)) := (blk_cell BK108.out 0).trans rfl; have hcz34_1 : w31.cell? ⟨gb108, 1, none⟩ = some (.slice A107_1 ((rd_T53 ((rd_T62 l0 x4_1).f0) x6_2).f1).length c107_1) := (blk_cell BK108.out 1).trans rfl; have hcz34_2 : w31.cell? ⟨gb108, 2, none⟩ = some (.int .i64 ((rd_T53 ((rd_T62 l0 x4_1).f0) x6_2).f2.f0)) := (blk_cell BK108.out 2).trans rfl; have hcz34_3 : w31.cell? ⟨gb108, 3, none⟩ = some (.slice A107_3 ((rd_T53 ((rd_T62 l0 x4_1).f0) x6_2).f2.f1).length c107_3) := (blk_cell BK108.out 3).trans rfl; have hcz34_4 : w31.cell? ⟨gb108, 4, none⟩ = some (.slice A107_4 ((rd_T53 ((rd_T62 l0 x4_1).f0) x6_2).f2.f2).length c107_4) := (blk_cell BK108.out 4).trans rfl; have hcz34_5 : w31.cell? ⟨gb108, 5, none⟩ = some (.slice A107_5 ((rd_T53 ((rd_T62 l0 x4_1).f0) x6_2).f2.f3).length c107_5) := (blk_cell BK108.out 5).trans rfl; have hfz34_0 := blk_frozen BK108.out 0; have hfz34_1 := blk_frozen BK108.out 1; have hfz34_2 := blk_frozen BK108.out 2; have hfz34_3 := blk_frozen BK108.out 3; have hfz34_4 := blk_frozen BK108.out 4; have hfz34_5 := blk_frozen BK108.out 5) | ((with_reducible refine gate_builtin (b := .append) (xs := #[.tmp 73, .tmp 76]) rfl ?_); at_builtin; refine Kd.R_append_rows k118 (w0 := w) w.heap.size rfl (.tmp 73) (.tmp 76) 49 118 (.agg #[(.int .i64 0), (.bool false), (.int .i64 0), (.bool false)]) 32 rfl Tryd.underlying49 info118 rfl (by decide) (by omega) (.slice none 0 0) ([] : List (S118)) ((rd_T53 ((rd_T62 l0 x4_1).f0) x6_2).f2.f3) _ _ _ (fun _ => True) (fun _ => False) rfl rfl ?aO ?aR (fun _ _ h => h) (fun _ h => h.elim) ?aF ?aB ?aS ?aL ?_; (case aR => exact Kd.C_below HR107_5.out (by repeat (first | (with_reducible first | exact HB.out | apply below_alloc | apply pw_below_drewN | apply below_drew1 | refine below_set ?_ GE104.out | refine below_set ?_ GE108.out | refine below_set ?_ GE109.out) | exact HB.out))); (case aB => exact (by repeat (first | (with_reducible first | exact HB.out | apply below_alloc | apply pw_below_drewN | apply below_drew1 | refine below_set ?_ GE104.out | refine below_set ?_ GE108.out | refine below_set ?_ GE109.out) | exact HB.out))); (case aF => exact (fun _ _ => trivial)); (case aO => exact ((Kd.R_nil _ _ _ _ (fun _ => True)))); (case aS => exact (below_size (by repeat (first | (with_reducible first | exact HB.out | apply below_alloc | apply pw_below_drewN | apply below_drew1 | refine below_set ?_ GE104.out | refine below_set ?_ GE108.out | refine below_set ?_ GE109.out) | exact HB.out)))); (case aL => have := LMc13.out; omega); intro v120 w35 ho hb hg hat; rw [← Ny119.out] at ho; have n0_ := Aside0.mk (Kd.R_after (Kd.R_apart_nil (by (with_reducible repeat (first | apply Kd.R_alloc | apply Kd.R_drewN | apply Kd.R_drew)); exact (Kd.R_mono (Kd.R_far (p := ⟨gb109, 4, none⟩) (Kd.R_mono HO_3.out (fun k_ hk => (⟨hk, hk.1.1.1.2⟩ : _ ∧ k_ ≠ gb109))) (fun _ hk => hk.2) (.slice Ao32 y116.length co32)) (fun _ h_ => h_.1)))) hg hat); have n1_ := Aside0.mk (Kd.S_after (Kd.S_apart_nil (by (with_reducible repeat (first | apply Kd.S_alloc | apply Kd.S_drewN | apply Kd.S_drew)); exact (Kd.S_mono (Kd.S_far (p := ⟨gb109, 4, none⟩) (Kd.S_mono HO_105000.out (fun k_ hk => (⟨hk, hk.1.1.1.2⟩ : _ ∧ k_ ≠ gb109))) (fun _ hk => hk.2) (.slice Ao32 y116.length co32)) (fun _ h_ => h_.1)))) hg hat); have n2_ := Aside0.mk (blk_grown (g := gb104) (o := .cells #[u105000, .bool ((rd_T62 l0 x4_1).f1)] 62 (0, 0)) (by (with_reducible repeat (first | refine blk_drewN ?_ _ | refine blk_drew ?_ | refine blk_alloc ?_ _)); refine blk_far ?_ NB104_109.out _; (with_reducible repeat (first | refine blk_drewN ?_ _ | refine blk_drew ?_ | refine blk_alloc ?_ _)); exact BK104.out) hg (by simp [Value.ownBlock])); have n3_ := Aside0.mk (blk_grown (g := gb108) (o := .cells #[.bool ((rd_T53 ((rd_T62 l0 x4_1).f0) x6_2).f0), .slice A107_1 ((rd_T53 ((rd_T62 l0 x4_1).f0) x6_2).f1).length c107_1, .int .i64 ((rd_T53 ((rd_T62 l0 x4_1).f0) x6_2).f2.f0), .slice A107_3 ((rd_T53 ((rd_T62 l0 x4_1).f0) x6_2).f2.f1).length c107_3, .slice A107_4 ((rd_T53 ((rd_T62 l0 x4_1).f0) x6_2).f2.f2).length c107_4, .slice A107_5 ((rd_T53 ((rd_T62 l0 x4_1).f0) x6_2).f2.f3).length c107_5] 53 (0, 0)) (by (with_reducible repeat (first | refine blk_drewN ?_ _ | refine blk_drew ?_ | refine blk_alloc ?_ _)); refine blk_far ?_ NB108_109.out _; (with_reducible repeat (first | refine blk_drewN ?_ _ | refine blk_drew ?_ | refine blk_alloc ?_ _)); exact BK108.out) hg (by simp [Value.ownBlock])); have n4_ := Aside0.mk (blk_grown (g := gb109) (o := .cells #[.bool ((rd_T53 ((rd_T62 l0 x4_1).f0) x6_2).f0), .slice Ao24 y110.length co24, .int .i64 ((rd_T53 ((rd_T62 l0 x4_1).f0) x6_2).f2.f0), .slice Ao28 y113.length co28, .slice Ao32 y116.length co32, .slice none 0 0] 53 (0, 0)) (by (with_reducible repeat (first | refine blk_drewN ?_ _ | refine blk_drew ?_ | refine blk_alloc ?_ _)); refine blk_put (cs := #[.bool ((rd_T53 ((rd_T62 l0 x4_1).f0) x6_2).f0), .slice Ao24 y110.length co24, .int .i64 ((rd_T53 ((rd_T62 l0 x4_1).f0) x6_2).f2.f0), .slice Ao28 y113.length co28, .slice none 0 0, .slice none 0 0]) ?_ 4 _ rfl; (with_reducible repeat (first | refine blk_drewN ?_ _ | refine blk_drew ?_ | refine blk_alloc ?_ _)); exact BK109.out) hg (by simp [Value.ownBlock])); have n5_ := Aside0.mk (Kd.R_grown (by (with_reducible repeat (first | apply Kd.R_alloc | apply Kd.R_drewN | apply Kd.R_drew)); exact (Kd.R_mono (Kd.R_far (p := ⟨gb109, 4, none⟩) (Kd.R_types HO112.out BK109.out (by decide)) (fun _ hk => hk.2) (.slice Ao32 y116.length co32)) (fun _ h_ => h_.1))) hg (fun _ _ => by simp [Value.ownBlock])); have n6_ := Aside0.mk (Kd.R_grown (by (with_reducible repeat (first | apply Kd.R_alloc | apply Kd.R_drewN | apply Kd.R_drew)); exact (Kd.R_mono (Kd.R_far (p := ⟨gb109, 4, none⟩) (Kd.R_types HO115.out BK109.out (by decide)) (fun _ hk => hk.2) (.slice Ao32 y116.length co32)) (fun _ h_ => h_.1))) hg (fun _ _ => by simp [Value.ownBlock])); have n7_ := Aside0.mk (Kd.R_grown (by (with_reducible repeat (first | apply Kd.R_alloc | apply Kd.R_drewN | apply Kd.R_drew)); exact (Kd.R_mono (Kd.R_far (p := ⟨gb109, 4, none⟩) (Kd.R_types HO118.out BK109.out (by decide)) (fun _ hk => hk.2) (.slice Ao32 y116.length co32)) (fun _ h_ => h_.1))) hg (fun _ _ => by simp [Value.ownBlock])); have n8_ := Aside0.mk (hb); have n9_ := Aside0.mk (ho); clear HO_3; clear HO_105000; clear BK104; clear BK108; clear BK109; clear HO112; clear HO115; clear HO118; clear HB; have HO_3 := n0_; have HO_105000 := n1_; have BK104 := n2_; have BK108 := n3_; have BK109 := n4_; have HO112 := n5_; have HO115 := n6_; have HO118 := n7_; have HB := n8_; have HO121 := n9_; clear n0_ n1_ n2_ n3_ n4_ n5_ n6_ n7_ n8_ n9_; clear ho hb hg hat; obtain ⟨Ao36, co36, eo36⟩ := Kd.R_slice HO121.out; subst eo36; have hcz37_0 : w35.cell? ⟨gb109, 0, none⟩ = some (.bool ((rd_T53 ((rd_T62 l0 x4_1).f0) x6_2).f0)) := (blk_cell BK109.out 0).trans rfl; have hcz37_1 : w35.cell? ⟨gb109, 1, none⟩ = some (.slice Ao24 y110.length co24) := (blk_cell BK109.out 1).trans rfl; have hcz37_2 : w35.cell? ⟨gb109, 2, none⟩ = some (.int .i64 ((rd_T53 ((rd_T62 l0 x4_1).f0) x6_2).f2.f0)) := (blk_cell BK109.out 2).trans rfl; have hcz37_3 : w35.cell? ⟨gb109, 3, none⟩ = some (.slice Ao28 y113.length co28) := (blk_cell BK109.out 3).trans rfl; have hcz37_4 : w35.cell? ⟨gb109, 4, none⟩ = some (.slice Ao32 y116.length co32) := (blk_cell BK109.out 4).trans rfl; have hcz37_5 : w35.cell? ⟨gb109, 5, none⟩ = some (.slice none 0 0) := (blk_cell BK109.out 5).trans rfl; have hfz37_0 := blk_frozen BK109.out 0; have hfz37_1 := blk_frozen BK109.out 1; have hfz37_2 := blk_frozen BK109.out 2; have hfz37_3 := blk_frozen BK109.out 3; have hfz37_4 := blk_frozen BK109.out 4; have hfz37_5 := blk_frozen BK109.out 5) | ((with_reducible refine gate_store (t := 49) (p := 79) rfl ?_); refine store_event (t := 49) (p := 79) (v := ?vo_w38) (w1 := (w35.setCell ⟨gb109, 5, none⟩ (.slice Ao36 y119.length co36))) ?hg ?ho ?hn ?hr ?_; (case ho => rfl); (case hg => rfl); (case hn => rfl); (case hr => first | (go_simp; done) | (go_simp; rfl)); intro w38 hw; have n0_ : Aside0 (Kd.R k62 62 w38 w.heap.size (fun k_ => some k_ ≠ (u105000 : Value).ownBlock ∧ some k_ ≠ (.slice Ao24 y110.length co24 : Value).ownBlock ∧ some k_ ≠ (.slice Ao28 y113.length co28 : Value).ownBlock ∧ some k_ ≠ (.slice Ao32 y116.length co32 : Value).ownBlock ∧ some k_ ≠ (.slice Ao36 y119.length co36 : Value).ownBlock ∧ k_ ≠ gb104 ∧ k_ ≠ gb108 ∧ k_ ≠ gb109) u3 x3_1) := ⟨(by rw [hw]; exact (by (with_reducible repeat (first | apply Kd.R_alloc | apply Kd.R_drewN | apply Kd.R_drew)); exact Kd.R_mono (Kd.R_far (p := ⟨gb109, 5, none⟩) (Kd.R_mono HO_3.out (fun k_ hk => (⟨hk, hk.1.1.1.1.2⟩ : _ ∧ k_ ≠ gb109))) (fun _ hk => hk.2) (.slice Ao36 y119.length co36)) (fun _ hk => ⟨hk.1.1.1.1.1.1.1.1, ⟨hk.1.1.1.1.2, ⟨hk.1.1.1.2, ⟨hk.1.1.2, ⟨hk.1.2, ⟨hk.1.1.1.1.1.1.1.2, ⟨hk.1.1.1.1.1.1.2, hk.1.1.1.1.1.2⟩⟩⟩⟩⟩⟩⟩)))⟩; have n1_ : Aside0 (Kd.S k53 53 w38 w.heap.size (fun k_ => some k_ ≠ (.slice Ao24 y110.length co24 : Value).ownBlock ∧ some k_ ≠ (.slice Ao28 y113.length co28 : Value).ownBlock ∧ some k_ ≠ (.slice Ao32 y116.length co32 : Value).ownBlock ∧ some k_ ≠ (.slice Ao36 y119.length co36 : Value).ownBlock ∧ k_ ≠ gb108 ∧ k_ ≠ gb109) u105000 x105000_2) := ⟨(by rw [hw]; exact (by (with_reducible repeat (first | apply Kd.S_alloc | apply Kd.S_drewN | apply Kd.S_drew)); exact Kd.S_mono (Kd.S_far (p := ⟨gb109, 5, none⟩) (Kd.S_mono HO_105000.out (fun k_ hk => (⟨hk, hk.1.1.1.1.2⟩ : _ ∧ k_ ≠ gb109))) (fun _ hk => hk.2) (.slice Ao36 y119.length co36)) (fun _ hk => ⟨hk.1.1.1.1.2, ⟨hk.1.1.1.2, ⟨hk.1.1.2, ⟨hk.1.2, ⟨hk.1.1.1.1.1.1.2, hk.1.1.1.1.1.2⟩⟩⟩⟩⟩)))⟩; have n2_ : Aside0 (Kd.R (Kd.int .i64) 3 w38 w.heap.size (fun _ => True) (.slice Ao24 y110.length co24) y110) := ⟨(by rw [hw]; exact (by (with_reducible repeat (first | apply Kd.R_alloc | apply Kd.R_drewN | apply Kd.R_drew)); exact Kd.R_mono (Kd.R_far (p := ⟨gb109, 5, none⟩) (Kd.R_types HO112.out BK109.out (by decide)) (fun _ hk => hk.2) (.slice Ao36 y119.length co36)) (fun _ hk => trivial)))⟩; have n3_ : Aside0 (Kd.R k74 74 w38 w.heap.size (fun k_ => some k_ ≠ (.slice Ao32 y116.length co32 : Value).ownBlock) (.slice Ao28 y113.length co28) y113) := ⟨(by rw [hw]; exact (by (with_reducible repeat (first | apply Kd.R_alloc | apply Kd.R_drewN | apply Kd.R_drew)); exact Kd.R_mono (Kd.R_far (p := ⟨gb109, 5, none⟩) (Kd.R_types HO115.out BK109.out (by decide)) (fun _ hk => hk.2) (.slice Ao36 y119.length co36)) (fun _ hk => hk.1.2)))⟩; have n4_ : Aside0 (Kd.R k74 74 w38 w.heap.size (fun k_ => some k_ ≠ (.slice Ao28 y113.length co28 : Value).ownBlock) (.slice Ao32 y116.length co32) y116) := ⟨(by rw [hw]; exact (by (with_reducible repeat (first | apply Kd.R_alloc | apply Kd.R_drewN | apply Kd.R_drew)); exact Kd.R_mono (Kd.R_far (p := ⟨gb109, 5, none⟩) (Kd.R_types HO118.out BK109.out (by decide)) (fun _ hk => hk.2) (.slice Ao36 y119.length co36)) (fun _ hk => hk.1)))⟩; have n5_ : Aside0 (Kd.R k118 118 w38 w.heap.size (fun _ => True) (.slice Ao36 y119.length co36) y119) := ⟨(by rw [hw]; exact (by (with_reducible repeat (first | apply Kd.R_alloc | apply Kd.R_drewN | apply Kd.R_drew)); exact Kd.R_mono (Kd.R_far (p := ⟨gb109, 5, none⟩) (Kd.R_types HO121.out BK109.out (by decide)) (fun _ hk => hk.2) (.slice Ao36 y119.length co36)) (fun _ hk => trivial)))⟩; have n6_ : Aside0 (w38.heap[gb104]? = some (.cells #[u105000, .bool ((rd_T62 l0 x4_1).f1)] 62 (0, 0))) := ⟨(by rw [hw]; exact (by (with_reducible repeat (first | refine blk_drewN ?_ _ | refine blk_drew ?_ | refine blk_alloc ?_ _)); refine blk_far ?_ NB104_109.out _; (with_reducible repeat (first | refine blk_drewN ?_ _ | refine blk_drew ?_ | refine blk_alloc ?_ _)); exact BK104.out))⟩; have n7_ : Aside0 (w38.heap[gb108]? = some (.cells #[.bool ((rd_T53 ((rd_T62 l0 x4_1).f0) x6_2).f0), .slice A107_1 ((rd_T53 ((rd_T62 l0 x4_1).f0) x6_2).f1).length c107_1, .int .i64 ((rd_T53 ((rd_T62 l0 x4_1).f0) x6_2).f2.f0), .slice A107_3 ((rd_T53 ((rd_T62 l0 x4_1).f0) x6_2).f2.f1).length c107_3, .slice A107_4 ((rd_T53 ((rd_T62 l0 x4_1).f0) x6_2).f2.f2).length c107_4, .slice A107_5 ((rd_T53 ((rd_T62 l0 x4_1).f0) x6_2).f2.f3).length c107_5] 53 (0, 0))) := ⟨(by rw [hw]; exact (by (with_reducible repeat (first | refine blk_drewN ?_ _ | refine blk_drew ?_ | refine blk_alloc ?_ _)); refine blk_far ?_ NB108_109.out _; (with_reducible repeat (first | refine blk_drewN ?_ _ | refine blk_drew ?_ | refine blk_alloc ?_ _)); exact BK108.out))⟩; have n8_ : Aside0 (w38.heap[gb109]? = some (.cells #[.bool ((rd_T53 ((rd_T62 l0 x4_1).f0) x6_2).f0), .slice Ao24 y110.length co24, .int .i64 ((rd_T53 ((rd_T62 l0 x4_1).f0) x6_2).f2.f0), .slice Ao28 y113.length co28, .slice Ao32 y116.length co32, .slice Ao36 y119.length co36] 53 (0, 0))) := ⟨(by rw [hw]; exact (by (with_reducible repeat (first | refine blk_drewN ?_ _ | refine blk_drew ?_ | refine blk_alloc ?_ _)); refine blk_put (cs := #[.bool ((rd_T53 ((rd_T62 l0 x4_1).f0) x6_2).f0), .slice Ao24 y110.length co24, .int .i64 ((rd_T53 ((rd_T62 l0 x4_1).f0) x6_2).f2.f0), .slice Ao28 y113.length co28, .slice Ao32 y116.length co32, .slice none 0 0]) ?_ 5 _ rfl; (with_reducible repeat (first | refine blk_drewN ?_ _ | refine blk_drew ?_ | refine blk_alloc ?_ _)); exact BK109.out))⟩; have n9_ : Aside0 (Below w.heap.size w w38) := ⟨(by rw [hw]; exact (by repeat (first | (with_reducible first | exact HB.out | apply below_alloc | apply pw_below_drewN | apply below_drew1 | refine below_set ?_ GE104.out | refine below_set ?_ GE108.out | refine below_set ?_ GE109.out) | exact HB.out)))⟩; clear hw; clear HO_3; clear HO_105000; clear HO112; clear HO115; clear HO118; clear HO121; clear BK104; clear BK108; clear BK109; clear HB; have HO_3 := n0_; have HO_105000 := n1_; have HO112 := n2_; have HO115 := n3_; have HO118 := n4_; have HO121 := n5_; have BK104 := n6_; have BK108 := n7_; have BK109 := n8_; have HB := n9_; clear n0_ n1_ n2_ n3_ n4_ n5_ n6_ n7_ n8_ n9_; have hcz39_0 : w38.cell? ⟨gb104, 0, none⟩ = some (u105000) := (blk_cell BK104.out 0).trans rfl; have hcz39_1 : w38.cell? ⟨gb104, 1, none⟩ = some (.bool ((rd_T62 l0 x4_1).f1)) := (blk_cell BK104.out 1).trans rfl; have hfz39_0 := blk_frozen BK104.out 0; have hfz39_1 := blk_frozen BK104.out 1; have hcz40_0 : w38.cell? ⟨gb109, 0, none⟩ = some (.bool ((rd_T53 ((rd_T62 l0 x4_1).f0) x6_2).f0)) := (blk_cell BK109.out 0).trans rfl; have hcz40_1 : w38.cell? ⟨gb109, 1, none⟩ = some (.slice Ao24 y110.length co24) := (blk_cell BK109.out 1).trans rfl; have hcz40_2 : w38.cell? ⟨gb109, 2, none⟩ = some (.int .i64 ((rd_T53 ((rd_T62 l0 x4_1).f0) x6_2).f2.f0)) := (blk_cell BK109.out 2).trans rfl; have hcz40_3 : w38.cell? ⟨gb109, 3, none⟩ = some (.slice Ao28 y113.length co28) := (blk_cell BK109.out 3).trans rfl; have hcz40_4 : w38.cell? ⟨gb109, 4, none⟩ = some (.slice Ao32 y116.length co32) := (blk_cell BK109.out 4).trans rfl; have hcz40_5 : w38.cell? ⟨gb109, 5, none⟩ = some (.slice Ao36 y119.length co36) := (blk_cell BK109.out 5).trans rfl; have hfz40_0 := blk_frozen BK109.out 0; have hfz40_1 := blk_frozen BK109.out 1; have hfz40_2 := blk_frozen BK109.out 2; have hfz40_3 := blk_frozen BK109.out 3; have hfz40_4 := blk_frozen BK109.out 4; have hfz40_5 := blk_frozen BK109.out 5) | ((with_reducible refine gate_builtin (b := .append) (xs := #[.tmp 81, .tmp 83]) rfl ?_); at_builtin; refine Kd.S_append k53 (w0 := w) w.heap.size rfl (.tmp 81) (.tmp 83) 60 53 (.agg #[(.bool false), (.slice none 0 0), (.int .i64 0), (.slice none 0 0), (.slice none 0 0), (.slice none 0 0)]) 112 rfl Tryd.underlying60 info53 rfl (by decide) (by omega) u105000 x105000_2 (⟨(rd_T53 ((rd_T62 l0 x4_1).f0) x6_2).f0, y110, (⟨(rd_T53 ((rd_T62 l0 x4_1).f0) x6_2).f2.f0, y113, y116, y119⟩ : S51)⟩ : S53) [.bool ((rd_T53 ((rd_T62 l0 x4_1).f0) x6_2).f0), .slice Ao24 y110.length co24, .int .i64 ((rd_T53 ((rd_T62 l0 x4_1).f0) x6_2).f2.f0), .slice Ao28 y113.length co28, .slice Ao32 y116.length co32, .slice Ao36 y119.length co36] (fun k_ => k_ ≠ gb108 ∧ k_ ≠ gb109) (fun k_ => some k_ = (.slice Ao24 y110.length co24 : Value).ownBlock ∨ some k_ = (.slice Ao28 y113.length co28 : Value).ownBlock ∨ some k_ = (.slice Ao32 y116.length co32 : Value).ownBlock ∨ some k_ = (.slice Ao36 y119.length co36 : Value).ownBlock) rfl rfl ?aP (fun k_ hk_ => hk_.elim (fun h_ => ((Kd.R_mono (ok' := fun k_ => ((fun k_ => k_ ≠ gb108 ∧ k_ ≠ gb109)) k_ ∧ some k_ ≠ (u105000 : Value).ownBlock) (Kd.R_types (Kd.R_types (Kd.R_apart' (HO112.out) (Kd.S_typed HO_105000.out) (by decide)) BK108.out (by decide)) BK109.out (by decide)) (fun k_ hk => ⟨⟨hk.1.2, hk.2⟩, hk.1.1.2⟩))).1 k_ h_.symm) (fun h_ => h_.elim (fun h_ => ((Kd.R_mono (ok' := fun k_ => ((fun k_ => k_ ≠ gb108 ∧ k_ ≠ gb109)) k_ ∧ some k_ ≠ (u105000 : Value).ownBlock) (Kd.R_types (Kd.R_types (Kd.R_apart' (HO115.out) (Kd.S_typed HO_105000.out) (by decide)) BK108.out (by decide)) BK109.out (by decide)) (fun k_ hk => ⟨⟨hk.1.2, hk.2⟩, hk.1.1.2⟩))).1 k_ h_.symm) (fun h_ => h_.elim (fun h_ => ((Kd.R_mono (ok' := fun k_ => ((fun k_ => k_ ≠ gb108 ∧ k_ ≠ gb109)) k_ ∧ some k_ ≠ (u105000 : Value).ownBlock) (Kd.R_types (Kd.R_types (Kd.R_apart' (HO118.out) (Kd.S_typed HO_105000.out) (by decide)) BK108.out (by decide)) BK109.out (by decide)) (fun k_ hk => ⟨⟨hk.1.2, hk.2⟩, hk.1.1.2⟩))).1 k_ h_.symm) (fun h_ => ((Kd.R_mono (ok' := fun k_ => ((fun k_ => k_ ≠ gb108 ∧ k_ ≠ gb109)) k_ ∧ some k_ ≠ (u105000 : Value).ownBlock) (Kd.R_types (Kd.R_types (Kd.R_apart' (HO121.out) (Kd.S_typed HO_105000.out) (by decide)) BK108.out (by decide)) BK109.out (by decide)) (fun k_ hk => ⟨⟨hk.1.2, hk.2⟩, hk.1.1.2⟩))).1 k_ h_.symm)))) ?aF ?aO ?aB ?aS ?aL ?_; (case aP => exact k53_mkM _ _ _ (⟨(rd_T53 ((rd_T62 l0 x4_1).f0) x6_2).f0, y110, (⟨(rd_T53 ((rd_T62 l0 x4_1).f0) x6_2).f2.f0, y113, y116, y119⟩ : S51)⟩ : S53) (Kd.R_mono (Kd.R_tight rfl (Kd.R_mono (ok' := fun k_ => ((fun k_ => k_ ≠ gb108 ∧ k_ ≠ gb109)) k_ ∧ some k_ ≠ (u105000 : Value).ownBlock) (Kd.R_types (Kd.R_types (Kd.R_apart' (HO112.out) (Kd.S_typed HO_105000.out) (by decide)) BK108.out (by decide)) BK109.out (by decide)) (fun k_ hk => ⟨⟨hk.1.2, hk.2⟩, hk.1.1.2⟩))) (fun _ h_ => Or.inl h_)) (Kd.R_mono (Kd.R_tight rfl (Kd.R_mono (ok' := fun k_ => ((fun k_ => k_ ≠ gb108 ∧ k_ ≠ gb109)) k_ ∧ some k_ ≠ (u105000 : Value).ownBlock) (Kd.R_types (Kd.R_types (Kd.R_apart' (HO115.out) (Kd.S_typed HO_105000.out) (by decide)) BK108.out (by decide)) BK109.out (by decide)) (fun k_ hk => ⟨⟨hk.1.2, hk.2⟩, hk.1.1.2⟩))) (fun _ h_ => Or.inr (Or.inl h_))) (Kd.R_mono (Kd.R_tight rfl (Kd.R_mono (ok' := fun k_ => ((fun k_ => k_ ≠ gb108 ∧ k_ ≠ gb109)) k_ ∧ some k_ ≠ (u105000 : Value).ownBlock) (Kd.R_types (Kd.R_types (Kd.R_apart' (HO118.out) (Kd.S_typed HO_105000.out) (by decide)) BK108.out (by decide)) BK109.out (by decide)) (fun k_ hk => ⟨⟨hk.1.2, hk.2⟩, hk.1.1.2⟩))) (fun _ h_ => Or.inr (Or.inr (Or.inl h_)))) (Kd.R_mono (Kd.R_tight rfl (Kd.R_mono (ok' := fun k_ => ((fun k_ => k_ ≠ gb108 ∧ k_ ≠ gb109)) k_ ∧ some k_ ≠ (u105000 : Value).ownBlock) (Kd.R_types (Kd.R_types (Kd.R_apart' (HO121.out) (Kd.S_typed HO_105000.out) (by decide)) BK108.out (by decide)) BK109.out (by decide)) (fun k_ hk => ⟨⟨hk.1.2, hk.2⟩, hk.1.1.2⟩))) (fun _ h_ => Or.inr (Or.inr (Or.inr (h_)))))); (case aB => exact (by repeat (first | (with_reducible first | exact HB.out | apply below_alloc | apply pw_below_drewN | apply below_drew1 | refine below_set ?_ GE104.out | refine below_set ?_ GE108.out | refine below_set ?_ GE109.out) | exact HB.out))); (case aF => exact (fun k_ hk => ⟨Kd.freshB (g := gb108) (o := .cells #[.bool ((rd_T53 ((rd_T62 l0 x4_1).f0) x6_2).f0), .slice A107_1 ((rd_T53 ((rd_T62 l0 x4_1).f0) x6_2).f1).length c107_1, .int .i64 ((rd_T53 ((rd_T62 l0 x4_1).f0) x6_2).f2.f0), .slice A107_3 ((rd_T53 ((rd_T62 l0 x4_1).f0) x6_2).f2.f1).length c107_3, .slice A107_4 ((rd_T53 ((rd_T62 l0 x4_1).f0) x6_2).f2.f2).length c107_4, .slice A107_5 ((rd_T53 ((rd_T62 l0 x4_1).f0) x6_2).f2.f3).length c107_5] 53 (0, 0)) (by (with_reducible repeat (first | refine blk_drewN ?_ _ | refine blk_drew ?_ | refine blk_alloc ?_ _)); exact BK108.out) k_ hk, Kd.freshB (g := gb109) (o := .cells #[.bool ((rd_T53 ((rd_T62 l0 x4_1).f0) x6_2).f0), .slice Ao24 y110.length co24, .int .i64 ((rd_T53 ((rd_T62 l0 x4_1).f0) x6_2).f2.f0), .slice Ao28 y113.length co28, .slice Ao32 y116.length co32, .slice Ao36 y119.length co36] 53 (0, 0)) (by (with_reducible repeat (first | refine blk_drewN ?_ _ | refine blk_drew ?_ | refine blk_alloc ?_ _)); exact BK109.out) k_ hk⟩)); (case aO => exact (by (with_reducible repeat (first | apply Kd.S_alloc | apply Kd.S_drewN | apply Kd.S_drew)); exact Kd.S_mono HO_105000.out (fun k_ hk => ⟨⟨hk.2.2.2.2.1, hk.2.2.2.2.2⟩, fun e_ => e_.elim (fun h_ => hk.1 h_) (fun h_ => h_.elim (fun h_ => hk.2.1 h_) (fun h_ => h_.elim (fun h_ => hk.2.2.1 h_) (fun h_ => hk.2.2.2.1 h_)))⟩))); (case aS => exact (below_size (by repeat (first | (with_reducible first | exact HB.out | apply below_alloc | apply pw_below_drewN | apply below_drew1 | refine below_set ?_ GE104.out | refine below_set ?_ GE108.out | refine below_set ?_ GE109.out) | exact HB.out)))); (case aL => have := LMc14.out; omega); intro v123 w41 ho hb hg hat; rw [← Ny122.out] at ho; have n0_ := Aside0.mk (Kd.R_after (ok := (fun k_ => some k_ ≠ (.slice Ao24 y110.length co24 : Value).ownBlock ∧ some k_ ≠ (.slice Ao28 y113.length co28 : Value).ownBlock ∧ some k_ ≠ (.slice Ao32 y116.length co32 : Value).ownBlock ∧ some k_ ≠ (.slice Ao36 y119.length co36 : Value).ownBlock ∧ k_ ≠ gb104 ∧ k_ ≠ gb108 ∧ k_ ≠ gb109)) (by (with_reducible repeat (first | apply Kd.R_alloc | apply Kd.R_drewN | apply Kd.R_drew)); exact Kd.R_mono HO_3.out (fun _ hk => ⟨⟨hk.2.1, ⟨hk.2.2.1, ⟨hk.2.2.2.1, ⟨hk.2.2.2.2.1, ⟨hk.2.2.2.2.2.1, ⟨hk.2.2.2.2.2.2.1, hk.2.2.2.2.2.2.2⟩⟩⟩⟩⟩⟩, hk.1⟩)) hg hat); have n1_ := Aside0.mk (blk_grown (g := gb104) (o := .cells #[u105000, .bool ((rd_T62 l0 x4_1).f1)] 62 (0, 0)) (by (with_reducible repeat (first | refine blk_drewN ?_ _ | refine blk_drew ?_ | refine blk_alloc ?_ _)); exact BK104.out) hg (Kd.S_ne HO_105000.out BK104.out (by decide))); have n2_ := Aside0.mk (blk_grown (g := gb108) (o := .cells #[.bool ((rd_T53 ((rd_T62 l0 x4_1).f0) x6_2).f0), .slice A107_1 ((rd_T53 ((rd_T62 l0 x4_1).f0) x6_2).f1).length c107_1, .int .i64 ((rd_T53 ((rd_T62 l0 x4_1).f0) x6_2).f2.f0), .slice A107_3 ((rd_T53 ((rd_T62 l0 x4_1).f0) x6_2).f2.f1).length c107_3, .slice A107_4 ((rd_T53 ((rd_T62 l0 x4_1).f0) x6_2).f2.f2).length c107_4, .slice A107_5 ((rd_T53 ((rd_T62 l0 x4_1).f0) x6_2).f2.f3).length c107_5] 53 (0, 0)) (by (with_reducible repeat (first | refine blk_drewN ?_ _ | refine blk_drew ?_ | refine blk_alloc ?_ _)); exact BK108.out) hg (Kd.S_away HO_105000.out (fun _ hk => hk.2.2.2.2.1))); have n3_ := Aside0.mk (blk_grown (g := gb109) (o := .cells #[.bool ((rd_T53 ((rd_T62 l0 x4_1).f0) x6_2).f0), .slice Ao24 y110.length co24, .int .i64 ((rd_T53 ((rd_T62 l0 x4_1).f0) x6_2).f2.f0), .slice Ao28 y113.length co28, .slice Ao32 y116.length co32, .slice Ao36 y119.length co36] 53 (0, 0)) (by (with_reducible repeat (first | refine blk_drewN ?_ _ | refine blk_drew ?_ | refine blk_alloc ?_ _)); exact BK109.out) hg (Kd.S_away HO_105000.out (fun _ hk => hk.2.2.2.2.2))); have n4_ := Aside0.mk (hb); have n5_ := Aside0.mk (ho); clear HO_3; clear BK104; clear BK108; clear BK109; clear HB; clear HO_105000; clear HO112; clear HO115; clear HO118; clear HO121; have HO_3 := n0_; have BK104 := n1_; have BK108 := n2_; have BK109 := n3_; have HB := n4_; have HO124 := n5_; clear n0_ n1_ n2_ n3_ n4_ n5_; clear ho hb hg hat; obtain ⟨Ao42, co42, eo42⟩ := Kd.S_slice HO124.out; subst eo42; have hcz43_0 : w41.cell? ⟨gb104, 0, none⟩ = some (u105000) := (blk_cell BK104.out 0).trans rfl; have hcz43_1 : w41.cell? ⟨gb104, 1, none⟩ = some (.bool ((rd_T62 l0 x4_1).f1)) := (blk_cell BK104.out 1).trans rfl; have hfz43_0 := blk_frozen BK104.out 0; have hfz43_1 := blk_frozen BK104.out 1))
                                go_roundg k2
                                case measure => have := HK1.out; have := HK2.out; omega
                                case rel => exact ⟨(wrap64 (x6_2 + 1)), (y122), (.slice Ao42 y122.length co42), (by first | rfl | (simp; done) | (simp [*]; done)), H', ⟨by have := HK1.out; have := HK2.out; omega⟩, ⟨by (with_reducible repeat (first | apply Kd.R_alloc | apply Kd.R_drewN | apply Kd.R_drew)); exact Kd.R_mono (Kd.R_far (p := ⟨gb104, 0, none⟩) (Kd.R_mono HO_3.out (fun k_ hk => (⟨hk, hk.1.2.2.2.2.1⟩ : _ ∧ k_ ≠ gb104))) (fun _ hk => hk.2) (.slice Ao42 y122.length co42)) (fun _ hk => ⟨hk.1.2, hk.1.1.2.2.2.2.1⟩)⟩, ⟨by (with_reducible repeat (first | apply Kd.S_alloc | apply Kd.S_drewN | apply Kd.S_drew)); exact Kd.S_mono (Kd.S_far (p := ⟨gb104, 0, none⟩) (Kd.S_types HO124.out BK104.out (by decide)) (fun _ hk => hk.2) (.slice Ao42 y122.length co42)) (fun _ hk => trivial)⟩, ⟨by (with_reducible repeat (first | refine blk_drewN ?_ _ | refine blk_drew ?_ | refine blk_alloc ?_ _)); refine blk_put (cs := #[u105000, .bool ((rd_T62 l0 x4_1).f1)]) ?_ 0 _ rfl; (with_reducible repeat (first | refine blk_drewN ?_ _ | refine blk_drew ?_ | refine blk_alloc ?_ _)); exact BK104.out⟩, ⟨by repeat (first | (with_reducible first | exact HB.out | apply below_alloc | apply pw_below_drewN | apply below_drew1 | refine below_set ?_ GE104.out | refine below_set ?_ GE108.out | refine below_set ?_ GE109.out) | exact HB.out)⟩⟩
                              · rw [if_neg c14] at H
                                exact absurd H (by simp)
                            · rw [if_neg c13] at H
                              exact absurd H (by simp)
                          · rw [if_neg c12] at H
                            exact absurd H (by simp)
                        · rw [if_neg c11] at H
                          exact absurd H (by simp)
                      · rw [if_neg c10] at H
                        exact absurd H (by simp)
                    · rw [if_neg c9] at H
                      exact absurd H (by simp)
                  · rw [if_neg c8] at H
                    have c8b0 : decide (x6_2 < (((rd_T62 l0 x4_1).f0).length : Int)) = false := decide_eq_false c8
                    clear c8
                    by_cases c44 : x3_1.length < 4398046511104
                    · rw [if_pos c44] at H
                      have LMc44 := Aside0.mk c44
                      clear c44
                      obtain ⟨y125, hy125⟩ : ∃ y_ : List (S62), y_ = (x3_1 ++ [(⟨x105000_2, ((rd_T62 l0 x4_1).f1)⟩ : S62)]) := ⟨_, rfl⟩
                      replace H : (ratchetlaw06_own.l0 k2 l0 y125 (wrap64 (x4_1 + 1))) = some r := by first | (rw [hy125]; with_reducible exact H) | (have H2_ := (Option.bind_some _ _).symm.trans H; rw [hy125]; with_reducible exact H2_) | (have H2_ := (Option.bind_some _ _).symm.trans H; with_reducible exact H2_) | with_reducible exact H | (rw [hy125]; exact H) | exact H
                      have Ny125 := Aside0.mk hy125
                      clear hy125
                      have H' := Aside0.mk H
                      clear H
                      have p105 : 0 ≤ (x4_1 : Int) := of_decide_eq_true (by first | (with_reducible assumption) | assumption)
                      have q105 : x4_1 < (l0.length : Int) := of_decide_eq_true (by first | (with_reducible assumption) | assumption)
                      obtain ⟨ad105, A105_0, c105_0, e105, hx105_0, hx105_1, hl105_0, hi105_0⟩ := at_T62 HR0.out x4_1 p105 q105
                      obtain rfl : ad103 = ad105 := (by injection e105)
                      replace hx105_0 := (HB.out.cell (World.block_lt_of_cell? w _ hx105_0)).trans hx105_0
                      replace hx105_1 := (HB.out.cell (World.block_lt_of_cell? w _ hx105_1)).trans hx105_1
                      have HR105_0 := Aside0.mk hi105_0
                      have HC105_0 := Aside0.mk hl105_0
                      clear hi105_0 hl105_0
                      replace p105 := eq_true p105
                      replace q105 := eq_true q105
                      have hcz45_0 : wr.cell? ⟨gb104, 0, none⟩ = some (u105000) := (blk_cell BK104.out 0).trans rfl
                      have hcz45_1 : wr.cell? ⟨gb104, 1, none⟩ = some (.bool ((rd_T62 l0 x4_1).f1)) := (blk_cell BK104.out 1).trans rfl
                      have hfz45_0 := blk_frozen BK104.out 0
                      have hfz45_1 := blk_frozen BK104.out 1
                      obtain ⟨Ao47, co47, eo47⟩ := Kd.S_slice HO_105000.out
                      subst eo47
                      go_wp2_with (first | ((with_reducible refine gate_builtin (b := .append) (xs := #[.tmp 86, .tmp 88]) rfl ?_); at_builtin; refine Kd.R_append k62 (w0 := w) w.heap.size rfl (.tmp 86) (.tmp 88) 22 62 (.agg #[(.slice none 0 0), (.bool false)]) 32 rfl Tryd.underlying22 info62 rfl (by decide) (by omega) u3 x3_1 (⟨x105000_2, ((rd_T62 l0 x4_1).f1)⟩ : S62) [.slice Ao47 x105000_2.length co47, .bool ((rd_T62 l0 x4_1).f1)] (fun k_ => k_ ≠ gb104) (fun k_ => ((fun k_ => k_ ≠ gb104)) k_ ∧ some k_ ≠ (u3 : Value).ownBlock) rfl rfl ?aP (fun _ hk => hk) ?aF ?aO ?aB ?aS ?aL ?_; (case aP => exact k62_mkM _ _ _ (⟨x105000_2, ((rd_T62 l0 x4_1).f1)⟩ : S62) (Kd.R_mono (Kd.R_types (Kd.R_apart' ((Kd.S_R HO_105000.out)) (Kd.R_typed HO_3.out) (by decide)) BK104.out (by decide)) (fun k_ hk => ⟨hk.2, hk.1.2⟩))); (case aB => exact (by repeat (first | (with_reducible first | exact HB.out | apply below_alloc | apply pw_below_drewN | apply below_drew1 | refine below_set ?_ GE104.out) | exact HB.out))); (case aF => exact (fun k_ hk => Kd.freshB (g := gb104) (o := .cells #[.slice Ao47 x105000_2.length co47, .bool ((rd_T62 l0 x4_1).f1)] 62 (0, 0)) (by (with_reducible repeat (first | refine blk_drewN ?_ _ | refine blk_drew ?_ | refine blk_alloc ?_ _)); exact BK104.out) k_ hk)); (case aO => exact (by (with_reducible repeat (first | apply Kd.R_alloc | apply Kd.R_drewN | apply Kd.R_drew)); exact Kd.R_mono HO_3.out (fun _ hk => hk.2))); (case aS => exact (below_size (by repeat (first | (with_reducible first | exact HB.out | apply below_alloc | apply pw_below_drewN | apply below_drew1 | refine below_set ?_ GE104.out) | exact HB.out)))); (case aL => have := LMc44.out; omega); intro v126 w46 ho hb hg hat; rw [← Ny125.out] at ho; have n0_ := Aside0.mk (blk_grown (g := gb104) (o := .cells #[.slice Ao47 x105000_2.length co47, .bool ((rd_T62 l0 x4_1).f1)] 62 (0, 0)) (by (with_reducible repeat (first | refine blk_drewN ?_ _ | refine blk_drew ?_ | refine blk_alloc ?_ _)); exact BK104.out) hg (Kd.R_away HO_3.out (fun _ hk => hk.2))); have n1_ := Aside0.mk (hb); have n2_ := Aside0.mk (ho); clear BK104; clear HB; clear HO_3; clear HO_105000; have BK104 := n0_; have HB := n1_; have HO127 := n2_; clear n0_ n1_ n2_; clear ho hb hg hat))
                      go_roundg k2
                      case measure => have := HK1.out; have := HK2.out; omega
                      case rel => exact ⟨(y125), (wrap64 (x4_1 + 1)), (by first | rfl | (simp; done) | (simp [*]; done)), H', ⟨by have := HK1.out; have := HK2.out; omega⟩, ⟨by (with_reducible repeat (first | apply Kd.R_alloc | apply Kd.R_drewN | apply Kd.R_drew)); exact Kd.R_mono HO127.out (fun _ hk => trivial)⟩, ⟨by repeat (first | (with_reducible first | exact HB.out | apply below_alloc | apply pw_below_drewN | apply below_drew1 | refine below_set ?_ GE104.out) | exact HB.out)⟩⟩
                    · rw [if_neg c44] at H
                      exact absurd H (by simp)
                · rw [if_neg c7] at H
                  exact absurd H (by simp)
              · rw [if_neg c6] at H
                exact absurd H (by simp)
        · rw [if_neg c3] at H
          exact absurd H (by simp)
      · rw [if_neg c2] at H
        have c2b0 : decide (x4_1 < (l0.length : Int)) = false := decide_eq_false c2
        clear c2
        obtain rfl := Option.some.inj H
        go_wp2
        go_ret
        exact ⟨_, by first | rfl | (simp [errW_none, errW_some] <;> rfl) | (simp [*, errW_none, errW_some] <;> rfl), by (with_reducible repeat (first | apply Kd.R_alloc | apply Kd.R_drewN | apply Kd.R_drew)); exact HO_3.out, by repeat (first | (with_reducible first | exact HB.out | apply below_alloc | apply pw_below_drewN | apply below_drew1) | exact HB.out)⟩
end Go.Proofs.YtfgglniigeagdaaDoor.QD
namespace Go.Proofs.YtfgglniigeagdaaDoor.Cn
set_option linter.unusedSimpArgs false
set_option linter.unusedVariables false
open Go.RowKit Go.Maps Go.Proofs.YtfgglniigeagdaaDoorW.PrintWords Go.Proofs.YtfgglniigeagdaaDoorW.PrintLast Go.Proofs.YtfgglniigeagdaaDoorW.PrintMore Go.Proofs.YtfgglniigeagdaaDoor.QD
def rolsFrom (n : Int) (gs : List (List S53)) : List S132 := (famsFrom n gs).map fun p => ⟨p.2, p.1⟩
/-- Block g is a table of the reference that holds the groups gs; v: their row. -/
structure R6 (B g : Nat) (ok : Nat → Prop) (gs : List (List S53)) (v : Value) (W : World) : Prop where
  box : W.heap[g]? = some (.cells #[v, .int .i64 (manyOf gs)] 89 (0, 0))
  row : Kd.R k132 132 W B ok v (rolsFrom 0 gs)
  hg : B ≤ g
section
variable {B g : Nat} {ok : Nat → Prop} {gs : List (List S53)} {v : Value} {W W' : World}
theorem R6.below (h : R6 B g ok gs v W) (hb : Below W.heap.size W W') : R6 B g ok gs v W' := ⟨blk_below h.box hb, Kd.R_below h.row hb, h.hg⟩
theorem R6.grown (h : R6 B g ok gs v W) {α : Type} {d : Kd α} {e B' : Nat} {ok' : Nat → Prop} {u : Value} {l : List α} (hr : Kd.R d e W B' ok' u l) (he : e ≠ 89) (hg : W.grownBy W' u.ownBlock) (hok : ∀ k, ok k → some k ≠ u.ownBlock) : R6 B g ok gs v W' :=
  ⟨blk_grown h.box hg (Kd.R_ne hr h.box he), Kd.R_grown h.row hg hok, h.hg⟩
theorem R6.weak (h : R6 B g ok gs v W) {ok' : Nat → Prop} (hk : ∀ k, ok k → ok' k) : R6 B g ok' gs v W := ⟨h.box, Kd.R_mono h.row hk, h.hg⟩
end
/-- What adding to a reference's table leaves of the world w0: blocks below B; and all that is neither the table's block nor a row of its groups. -/
structure FrR (B g : Nat) (w0 W : World) : Prop where
  bel : Below B w0 W
  oth : ∀ (k : Nat) (o : Obj), w0.heap[k]? = some o → k ≠ g → (∀ c fz, o ≠ .cells c 132 fz) → W.heap[k]? = some o
  z : B ≤ w0.heap.size
section
variable {B g : Nat} {w0 W W' : World}
theorem FrR.refl (h : B ≤ w0.heap.size) : FrR B g w0 w0 := ⟨Below.refl _ _, fun _ _ h _ _ => h, h⟩
theorem FrR.zz (h : FrR B g w0 W) : B ≤ W.heap.size := Nat.le_trans h.z h.bel.size
theorem FrR.trans (h : FrR B g w0 W) (k : FrR B g W W') : FrR B g w0 W' := ⟨h.bel.trans k.bel, fun i o hi h1 h2 => k.oth i o (h.oth i o hi h1 h2) h1 h2, h.z⟩
theorem FrR.below (h : FrR B g w0 W) (hb : Below W.heap.size W W') : FrR B g w0 W' :=
  ⟨h.bel.trans (hb.mono h.zz), fun k o hk h1 h2 => by
    have e := h.oth k o hk h1 h2
    exact (hb.block k (Array.getElem?_eq_some_iff.1 e).1).trans e, h.z⟩
/-- A row that the call itself made has grown. -/
theorem FrR.own (h : FrR B g w0 W) {α : Type} {d : Kd α} {e : Nat} {ok : Nat → Prop} {u : Value} {l : List α} (hr : Kd.R d e W w0.heap.size ok u l) (hg : W.grownBy W' u.ownBlock) : FrR B g w0 W' := by
  have hn : ∀ k, k < w0.heap.size → some k ≠ u.ownBlock := fun k hk e0 => by have := own_base' hr k e0.symm; omega
  refine ⟨⟨hg.os.trans h.bel.os, hg.tape.trans h.bel.tape, hg.output.trans h.bel.output, Nat.le_trans h.bel.size hg.size, fun k hk => (hg.block k (by have := h.bel.size; have := h.z; omega) (hn k (by have := h.z; omega))).trans (h.bel.block k hk)⟩, fun k o hk h1 h2 => ?_, h.z⟩
  have e := h.oth k o hk h1 h2
  exact (hg.block k (Array.getElem?_eq_some_iff.1 e).1 (hn k (Array.getElem?_eq_some_iff.1 hk).1)).trans e
/-- The row of groups has grown. -/
theorem FrR.fams (h : FrR B g w0 W) {ok : Nat → Prop} {u : Value} {l : List S132} (hr : Kd.R k132 132 W B ok u l) (hg : W.grownBy W' u.ownBlock) : FrR B g w0 W' := by
  have hn : ∀ k, k < B → some k ≠ u.ownBlock := fun k hk e0 => by have := own_base' hr k e0.symm; omega
  refine ⟨⟨hg.os.trans h.bel.os, hg.tape.trans h.bel.tape, hg.output.trans h.bel.output, Nat.le_trans h.bel.size hg.size, fun k hk => (hg.block k (by have := h.bel.size; have := h.z; omega) (hn k hk)).trans (h.bel.block k hk)⟩, fun k o hk h1 h2 => ?_, h.z⟩
  have e := h.oth k o hk h1 h2
  refine (hg.block k (Array.getElem?_eq_some_iff.1 e).1 (fun e0 => ?_)).trans e
  obtain ⟨_, inner, ho, _⟩ := hr
  obtain ⟨cells, hc⟩ := own_typed ho k e0.symm
  rw [e] at hc
  injection hc with hc
  exact h2 _ _ hc
/-- A store into the table's block. -/
theorem FrR.store (h : FrR B g w0 W) (hg : B ≤ g) (i : Nat) (u : Value) : FrR B g w0 (W.setCell ⟨g, i, none⟩ u) :=
  ⟨h.bel.trans ((Below.refl _ _).setCell hg u), fun k o hk h1 h2 => (Below.heap_setCell W ⟨g, i, none⟩ u k h1).trans (h.oth k o hk h1 h2), h.z⟩
/-- A row of whole numbers stays. -/
theorem FrR.row (hf : FrR B g w0 W) {v : Value} {l : List Int} {B0 : Nat} {ok : Nat → Prop} (hr : Kd.R (Kd.int .i64) 3 w0 B0 ok v l) (hg : ∃ cs t, w0.heap[g]? = some (.cells cs t (0, 0)) ∧ t ≠ 3) : Kd.R (Kd.int .i64) 3 W B0 (fun _ => True) v l := by
  refine Kd.R_mono (Kd.R_step (Kd.R_bound hr) (w1 := W) (fun k hk hlt => ?_)) (fun _ _ => trivial)
  obtain ⟨_, _, _, q, hq, cells, hc⟩ := hk
  have hq3 : q = 3 := List.mem_singleton.1 hq
  subst hq3
  rw [hc]
  refine hf.oth k _ hc ?_ ?_
  · rintro rfl
    obtain ⟨cs, t, h1, h2⟩ := hg
    rw [h1] at hc
    injection hc with hc
    injection hc with _ hc _
    exact h2 hc
  · intro c_ fz_ e
    injection e with _ e _
    exact absurd e (by decide)
end
/-- Blocks that were let in, or are new. -/
def OkN (ok : Nat → Prop) (n : Nat) (k : Nat) : Prop := ok k ∨ n ≤ k
/-- one: while the group is rolled up (loop 1), and while it is looked for (loop 2). -/
structure RO (B g : Nat) (ok : Nat → Prop) (gs : List (List S53)) (v : Value) (w : World) (bx : Obj) (vo : Value) (o : List S53) (W : World) : Prop where
  t : R6 B g (fun k => OkN ok w.heap.size k ∧ some k ≠ vo.ownBlock) gs v W
  ov : Kd.R k53 53 W w.heap.size (fun _ => True) vo o
  fr : FrR B g w W
  bx : W.heap[w.heap.size]? = some bx
section
variable {B g : Nat} {ok : Nat → Prop} {gs : List (List S53)} {v vo vo' : Value} {w W W' : World} {o o' : List S53} {cs : Array Value}
theorem RO.start (hT : R6 B g ok gs v w) (hB : B ≤ w.heap.size) (cs : Array Value) : RO B g ok gs v w (.cells cs 62 (0, 0)) (.slice none 0 0) [] (w.alloc (.cells cs 62)) :=
  have hb := (Below.refl w.heap.size w).alloc (Nat.le_refl _) (.cells cs 62)
  ⟨(hT.below hb).weak (fun k hk => ⟨.inl hk, by simp [Value.ownBlock]⟩), Kd.R_nil _ _ _ _ _, (FrR.refl hB).below hb, blk_new w _⟩
theorem RO.below (h : RO B g ok gs v w (.cells cs 62 (0, 0)) vo o W) (hb : Below W.heap.size W W') : RO B g ok gs v w (.cells cs 62 (0, 0)) vo o W' :=
  ⟨h.t.below hb, Kd.R_below h.ov hb, h.fr.below hb, blk_below h.bx hb⟩
theorem RO.app (h : RO B g ok gs v w (.cells cs 62 (0, 0)) vo o W) (hr : Kd.R k53 53 W' w.heap.size (fun _ => True) vo' o') (hg : W.grownBy W' vo.ownBlock) (hat : vo'.ownBlock = vo.ownBlock ∨ ∃ b, vo'.ownBlock = some b ∧ W.heap.size ≤ b) : RO B g ok gs v w (.cells cs 62 (0, 0)) vo' o' W' := by
  have t1 := h.t.grown h.ov (by decide) hg (fun k hk => hk.2)
  refine ⟨⟨t1.box, Kd.R_mono (Kd.R_after (ok := OkN ok w.heap.size) h.t.row hg hat) (fun k hk => hk), t1.hg⟩, hr, h.fr.own h.ov hg, blk_grown h.bx hg (Kd.R_ne h.ov h.bx (by decide))⟩
end
/-- The row of groups of a reference's table has grown, its block is told so: a group more. -/
theorem R6.put {B g : Nat} {ok : Nat → Prop} {gs : List (List S53)} {v v' : Value} {W W' : World} {o : List S53} (h : R6 B g ok gs v W) (hr : Kd.R k132 132 W' B ok v' (rolsFrom 0 (gs ++ [o]))) (hg : W.grownBy W' v.ownBlock) :
    R6 B g ok (gs ++ [o]) v' ((W'.setCell ⟨g, 0, none⟩ v').setCell ⟨g, 1, none⟩ (.int .i64 (manyOf gs + o.length))) := by
  have bx := blk_grown h.box hg (Kd.R_ne h.row h.box (by decide))
  have b1 := blk_set bx 0 v'
  have b2 := blk_set b1 1 (.int .i64 (manyOf gs + o.length))
  refine ⟨by rw [manyOf_snoc]; simpa using b2, Kd.R_set (Kd.R_set hr bx (by decide) 0 v') b1 (by decide) 1 _, h.hg⟩
end Go.Proofs.YtfgglniigeagdaaDoor.Cn
namespace Go.Proofs.YtfgglniigeagdaaDoor.Cn
set_option linter.unusedSimpArgs false
set_option linter.unusedVariables false
open Go.RowKit Go.Maps Go.Proofs.YtfgglniigeagdaaDoorW.PrintWords Go.Proofs.YtfgglniigeagdaaDoorW.PrintLast Go.Proofs.YtfgglniigeagdaaDoorW.PrintMore Go.Proofs.YtfgglniigeagdaaDoor.QD
theorem fr_row {B g b : Nat} {w W : World} {v : Value} {l : List Int} {B0 : Nat} {ok : Nat → Prop} (hf : FrA B g b w W) (hr : Kd.R (Kd.int .i64) 3 w B0 ok v l) (hg : ∃ cs t, w.heap[g]? = some (.cells cs t (0, 0)) ∧ t ≠ 3) (hb : ∀ cs t, w.heap[b]? ≠ some (.cells cs t (0, 0))) : Kd.R (Kd.int .i64) 3 W B0 (fun _ => True) v l := by
  refine Kd.R_mono (Kd.R_step (Kd.R_bound hr) (w1 := W) (fun k hk hlt => ?_)) (fun _ _ => trivial)
  obtain ⟨_, _, _, q, hq, cells, hc⟩ := hk
  have hq3 : q = 3 := List.mem_singleton.1 hq
  subst hq3
  rw [hc]
  refine hf.oth k _ hc ?_ ?_ ?_
  · rintro rfl
    obtain ⟨cs, t, h1, h2⟩ := hg
    rw [h1] at hc
    injection hc with hc
    injection hc with _ hc _
    exact h2 hc
  · rintro rfl
    exact hb _ _ hc
  · intro c_ fz_ e
    injection e with _ e _
    exact absurd e (by decide)
set_option maxRecDepth 100000 in
set_option maxHeartbeats 8000000 in
theorem one_calls (A1 : Option Addr) (c1 : Nat) (a : List S62) (A2 : Option Addr) (c2 : Nat) (b : List S62) (x y : Int) (w : World) (hCa : Kd.C k62 w A1 a.length a) (hca : a.length ≤ c1) (hCb : Kd.C k62 w A2 b.length b) (hcb : b.length ≤ c2)
    (hsa : ∀ r ∈ a, ∀ s ∈ r.f0, SOk (fun _ => True) s) (hsb : ∀ r ∈ b, ∀ s ∈ r.f0, SOk (fun _ => True) s) (hia : Clo a → ∀ r ∈ a, ∀ s ∈ r.f0, RIn s) (hib : Clo b → ∀ r ∈ b, ∀ s ∈ r.f0, RIn s) (hwa : wL a ≤ 1048576) (hwb : wL b ≤ 1048576) (hla : a.length ≤ 1048576) (hlb : b.length ≤ 1048576)
    (htab : Lib.TabBelow Tryd.prog w.heap.size w "internal/strconv.uint64pow10" .u64 Lib.pow10Tab) :
    Calls Tryd.prog 15 #[.slice A1 a.length c1, .slice A2 b.length c2, .int .i64 x, .int .i64 y] w fun e w' => e = .returned (.tuple #[.bool (oneM a b x y).1, .int .i64 (oneM a b x y).2]) ∧ Below w.heap.size w w' := by
  have hta : tcount a ≤ 1048576 := Nat.le_trans (tcount_le_wL a) hwa
  have htb : tcount b ≤ 1048576 := Nat.le_trans (tcount_le_wL b) hwb
  have N1 : Aside0 (tcount a ≤ 1099511627776) := ⟨by omega⟩
  have N2 : Aside0 (tcount b ≤ 1099511627776) := ⟨by omega⟩
  have N3 : Aside0 (a.length ≤ 1099511627776) := ⟨by omega⟩
  have N4 : Aside0 (b.length ≤ 1099511627776) := ⟨by omega⟩
  have HCA := Aside0.mk hCa
  have HCB := Aside0.mk hCb
  have HSA := Aside0.mk hsa
  have HSB := Aside0.mk hsb
  have HIA := Aside0.mk hia
  have HIB := Aside0.mk hib
  have HWA := Aside0.mk hwa
  have HWB := Aside0.mk hwb
  have HTAB := Aside0.mk htab
  clear hCa hCb hsa hsb hia hib hwa hwb htab
  go_enter Tryd.func15, Tryd.ntmps15
  go_wp2_with fail
  refine (closed_calls A1 c1 a w HCA.out hca (by omega) (by omega) HSA.out).mono ?_
  rintro e w1 ⟨⟨n, er, rfl, hcl⟩, hb1⟩
  have B1 := Aside0.mk hb1
  clear hb1
  rcases hcl with ⟨rfl, rfl, hcla⟩ | ⟨rfl, hncla⟩
  rotate_left
  · go_wp2_with fail
    go_ret2
    have e0 : oneM a b x y = (false, 50) := by unfold oneM; rw [if_neg (fun h => hncla h.1)]
    rw [e0]
    exact ⟨rfl, B1.out⟩
  have HCLA := Aside0.mk hcla
  clear hcla
  go_wp2_with fail
  refine (closed_calls A2 c2 b w1 (Kd.C_below HCB.out B1.out) hcb (by omega) (by omega) HSB.out).mono ?_
  rintro e w2 ⟨⟨n, er, rfl, hcl⟩, hb2⟩
  have B2 := Aside0.mk (B1.out.trans (hb2.mono B1.out.size))
  clear hb2
  rcases hcl with ⟨rfl, rfl, hclb⟩ | ⟨rfl, hnclb⟩
  rotate_left
  · go_wp2_with fail
    go_ret2
    have e0 : oneM a b x y = (false, 50) := by unfold oneM; rw [if_neg (fun h => hnclb h.2)]
    rw [e0]
    exact ⟨rfl, B2.out⟩
  have HCLB := Aside0.mk hclb
  clear hclb
  have HCA2 := Aside0.mk (Kd.C_below HCA.out B2.out)
  have HCB2 := Aside0.mk (Kd.C_below HCB.out B2.out)
  have out1 : ¬ (0 ≤ x ∧ x < tcount a ∧ 0 ≤ y ∧ y < tcount b) → oneM a b x y = (false, 1) := fun h => by unfold oneM; rw [if_pos ⟨HCLA.out, HCLB.out⟩, if_neg h]
  have OUT1 := Aside0.mk out1
  clear out1
  obtain ⟨ta, eta⟩ : ∃ ta : Nat, ta = tcount a := ⟨_, rfl⟩
  obtain ⟨tb, etb⟩ : ∃ tb : Nat, tb = tcount b := ⟨_, rfl⟩
  have KA := count_calls A1 c1 a w2 HCA2.out hca N1.out N3.out
  have KB : ∀ w3, Below w2.heap.size w2 w3 → _ := fun w3 h3 => count_calls A2 c2 b w3 (Kd.C_below HCB2.out h3) hcb N2.out N4.out
  rw [← eta] at KA hta OUT1
  rw [← etb] at htb OUT1
  simp only [← etb] at KB
  have ETA := Aside0.mk eta
  have ETB := Aside0.mk etb
  have KA' := Aside0.mk KA
  have KB' := Aside0.mk KB
  clear KA KB eta etb
  by_cases hx0 : x < 0
  · go_wp2_with fail
    go_ret2
    rw [OUT1.out (by omega)]
    exact ⟨rfl, B2.out⟩
  by_cases hx1 : (ta : Int) ≤ x
  · go_wp2_with (go_at_call 39; first | ((with_reducible refine KA'.out.mono ?_); rintro e w3 ⟨rfl, hb3⟩; have B3 := Aside0.mk (B2.out.trans (hb3.mono B2.out.size)); have HB3 := Aside0.mk hb3; clear hb3) | ((with_reducible refine (KB'.out w3 HB3.out).mono ?_); rintro e w4 ⟨rfl, hb4⟩; have B4 := Aside0.mk (B3.out.trans (hb4.mono B3.out.size)); clear hb4))
    go_ret2
    rw [OUT1.out (by omega)]
    exact ⟨rfl, B3.out⟩
  by_cases hy0 : y < 0
  · go_wp2_with (go_at_call 39; first | ((with_reducible refine KA'.out.mono ?_); rintro e w3 ⟨rfl, hb3⟩; have B3 := Aside0.mk (B2.out.trans (hb3.mono B2.out.size)); have HB3 := Aside0.mk hb3; clear hb3) | ((with_reducible refine (KB'.out w3 HB3.out).mono ?_); rintro e w4 ⟨rfl, hb4⟩; have B4 := Aside0.mk (B3.out.trans (hb4.mono B3.out.size)); clear hb4))
    go_ret2
    rw [OUT1.out (by omega)]
    exact ⟨rfl, B3.out⟩
  by_cases hy1 : (tb : Int) ≤ y
  · go_wp2_with (go_at_call 39; first | ((with_reducible refine KA'.out.mono ?_); rintro e w3 ⟨rfl, hb3⟩; have B3 := Aside0.mk (B2.out.trans (hb3.mono B2.out.size)); have HB3 := Aside0.mk hb3; clear hb3) | ((with_reducible refine (KB'.out w3 HB3.out).mono ?_); rintro e w4 ⟨rfl, hb4⟩; have B4 := Aside0.mk (B3.out.trans (hb4.mono B3.out.size)); clear hb4))
    go_ret2
    rw [OUT1.out (by omega)]
    exact ⟨rfl, B4.out⟩
  go_wp2_with (go_at_call 39; first | ((with_reducible refine KA'.out.mono ?_); rintro e w3 ⟨rfl, hb3⟩; have B3 := Aside0.mk (B2.out.trans (hb3.mono B2.out.size)); have HB3 := Aside0.mk hb3; clear hb3) | ((with_reducible refine (KB'.out w3 HB3.out).mono ?_); rintro e w4 ⟨rfl, hb4⟩; have B4 := Aside0.mk (B3.out.trans (hb4.mono B3.out.size)); clear hb4))
  refine (new_calls w4 (tab_mono (HTAB.out.on B4.out) B4.out.size)).mono ?_
  rintro e w5 ⟨rfl, ht5, hb5⟩
  have T5 := Aside0.mk ht5
  have B5 := Aside0.mk (B4.out.trans (hb5.mono B4.out.size))
  have B45 := Aside0.mk hb5
  clear ht5 hb5
  obtain ⟨B0, hB0⟩ : ∃ B0, B0 = w4.heap.size := ⟨_, rfl⟩
  rw [← hB0] at T5 B45 ⊢
  have HB0 := Aside0.mk hB0
  have HWB0 : Aside0 (w.heap.size ≤ B0) := ⟨by rw [hB0]; exact B4.out.size⟩
  have HZ5 : Aside0 (B0 ≤ w5.heap.size) := ⟨by rw [hB0]; exact B45.out.size⟩
  clear hB0
  go_wp2_with fail
  obtain ⟨g1, i1, ha1, hm1, hl1, hg1⟩ := addTo_room 9223372036854775807 a [] [] (by have h_ := N1.out; simp [manyOf]; omega)
  refine (add_calls ⟨B0, B0 + 1, 47, [.bool true], [], B0, a, 9223372036854775807, w5⟩ _ _ A1 c1 T5.out (Or.inl rfl) HZ5.out (LR.of_C HCA.out (fun W hW => B5.out.trans (hW.bel.mono HWB0.out))) hca (HIA.out HCLA.out) HWA.out hla (by show manyOf [] ≤ 1099511627776; simp [manyOf]) (by show ([] : List (List S53)).length ≤ 1099511627776; simp) ⟨by show (0 : Int) ≤ 9223372036854775807; decide, by show (9223372036854775807 : Int) ≤ 9223372036854775807; decide⟩).mono ?_
  intro e w6 hout
  unfold AddOut at hout
  dsimp only at hout
  rw [ha1] at hout
  obtain ⟨v6, D6, vi, rfl, hai⟩ := hout
  have A6 := Aside0.mk hai
  have F6 := Aside0.mk hai.fr
  obtain ⟨Ai, ci, hvi⟩ := Kd.R_slice hai.iv
  subst hvi
  have HA1 := Aside0.mk ha1
  have HL1 := Aside0.mk hl1
  clear hai ha1 hl1
  go_wp2_with fail
  obtain ⟨g2, i2, ha2, hm2, hl2, hg2⟩ := addTo_room 9223372036854775807 b g1 [] (by have h_ := N1.out; have h2_ := N2.out; have h3_ : manyOf [] = 0 := rfl; rw [h3_] at hm1; omega)
  have hB6 : B0 ≤ w6.heap.size := Nat.le_trans HZ5.out F6.out.bel.size
  refine (add_calls ⟨B0, B0 + 1, 47, [.bool true], g1, B0, b, 9223372036854775807, w6⟩ _ _ A2 c2 (A6.out.tb.weak (fun _ _ => trivial)) (Or.inl rfl) hB6 (LR.of_C HCB.out (fun W hW => (B5.out.trans (F6.out.bel.mono HWB0.out)).trans (hW.bel.mono HWB0.out))) hcb (HIB.out HCLB.out) HWB.out hlb (by have h_ := N1.out; have h0_ : tcount a ≤ 1048576 := Nat.le_trans (tcount_le_wL a) HWA.out; have h3_ : manyOf [] = 0 := rfl; rw [h3_] at hm1; dsimp only; omega) (by simp at hg1; dsimp only; omega) ⟨by show (0 : Int) ≤ 9223372036854775807; decide, by show (9223372036854775807 : Int) ≤ 9223372036854775807; decide⟩).mono ?_
  intro e w7 hout
  unfold AddOut at hout
  dsimp only at hout
  rw [ha2] at hout
  obtain ⟨v7, D7, vj, rfl, haj⟩ := hout
  have A7 := Aside0.mk haj
  obtain ⟨Aj, cj, hvj⟩ := Kd.R_slice haj.iv
  subst hvj
  have hri : Kd.R (Kd.int .i64) 3 w7 w5.heap.size (fun _ => True) (.slice Ai i1.length ci) i1 := fr_row haj.fr A6.out.iv ⟨_, _, A6.out.tb.box, by show (47 : Nat) ≠ 3; decide⟩ (fun cs t h => by obtain ⟨es, clock, hb, _⟩ := A6.out.tb.map; rw [hb] at h; cases h)
  obtain ⟨_, _, e1, hci, hCi⟩ := Kd.R_reads hri
  injection e1 with e1 e2 e3
  subst e1 e3
  obtain ⟨_, _, e4, hcj, hCj⟩ := Kd.R_reads haj.iv
  injection e4 with e4 e5 e6
  subst e4 e6
  have e0 : ([] : List Int).length = 0 := rfl
  have hli : (x : Int) < i1.length := by have h1_ := HL1.out; have h2_ := ETA.out; rw [e0] at h1_; omega
  have hlj : (y : Int) < i2.length := by have h2_ := ETB.out; rw [e0] at hl2; omega
  obtain ⟨ai, ei, hxi⟩ := Kd.at_int hCi x (by omega) hli
  obtain ⟨aj, ej, hyj⟩ := Kd.at_int hCj y (by omega) hlj
  subst ei ej
  have hone : oneM a b x y = (rd i1 x == rd i2 y, 0) := by
    unfold oneM oneIds
    rw [if_pos ⟨HCLA.out, HCLB.out⟩, if_pos (by have h1_ := ETA.out; have h2_ := ETB.out; omega), HA1.out]
    dsimp only
    rw [ha2]
  have B7 : Aside0 (Below w.heap.size w w7) := ⟨(B5.out.trans (F6.out.bel.mono HWB0.out)).trans (haj.fr.bel.mono HWB0.out)⟩
  have HX7 := Aside0.mk (And.intro hxi hyj)
  have HONE := Aside0.mk hone
  have hx' : 0 ≤ x := by omega
  have hy' : 0 ≤ y := by omega
  obtain ⟨li, hlie⟩ : ∃ li : Nat, li = i1.length := ⟨_, rfl⟩
  obtain ⟨lj, hlje⟩ : ∃ lj : Nat, lj = i2.length := ⟨_, rfl⟩
  rw [← hlie] at hli hci ⊢
  rw [← hlje] at hlj hcj ⊢
  obtain ⟨p1, hp1⟩ : ∃ p, p = rd i1 x := ⟨_, rfl⟩
  obtain ⟨p2, hp2⟩ : ∃ p, p = rd i2 y := ⟨_, rfl⟩
  rw [← hp1, ← hp2] at HONE HX7
  clear haj hri hCi hCj hxi hyj hone hm1 hg1 hm2 hl2 hg2 ha2 e0 hB6 hlie hlje hp1 hp2 e2 e5 hx0 hx1 hy0 hy1
  go_wp2_with fail
  refine start_ (n := 11) (S := fun w' => w'.cell? (ai.add x.toNat) = some (.int .i64 p1) ∧ w'.cell? (aj.add y.toNat) = some (.int .i64 p2)) (ds := []) #[false, false, false, false, false, false, false, false, false, false, false] (by kernel_rfl) rfl rfl ⟨HX7.out.1, HX7.out.2⟩ (fun hHeld => ?_)
  refine pure_ (i := 0) (N := some 73) (v := ?_) (a' := ?_) #[true, false, false, false, false, false, false, false, false, false, false] rfl rfl (by kernel_rfl) (fun _ _ _ h => h) (Or.inl ⟨by rfl, ?_⟩) ?_ ?_
  rotate_left
  · intro w'
    go_simp
    with_reducible rfl
  rotate_left
  · simp only [Act.put, List.setIfInBounds_toArray, List.set_cons_zero, List.set_cons_succ, i64_w, i32_w]
    rfl
  refine pure_ (i := 1) (N := some 74) (v := ?_) (a' := ?_) #[true, true, false, false, false, false, false, false, false, false, false] rfl rfl (by kernel_rfl) (fun _ _ _ h => h) (Or.inl ⟨by rfl, ?_⟩) ?_ ?_
  rotate_left
  · intro w'
    go_simp
    with_reducible rfl
  rotate_left
  · simp only [Act.put, List.setIfInBounds_toArray, List.set_cons_zero, List.set_cons_succ, i64_w, i32_w]
    rfl
  refine pure_ (i := 2) (N := some 75) (v := ?_) (a' := ?_) #[true, true, true, false, false, false, false, false, false, false, false] rfl rfl (by kernel_rfl) (fun _ _ _ h => h) (Or.inl ⟨by rfl, ?_⟩) ?_ ?_
  rotate_left
  · intro w'
    go_simp
    with_reducible rfl
  rotate_left
  · simp only [Act.put, List.setIfInBounds_toArray, List.set_cons_zero, List.set_cons_succ, i64_w, i32_w]
    rfl
  refine pure_ (i := 4) (N := some 77) (v := ?_) (a' := ?_) #[true, true, true, false, true, false, false, false, false, false, false] rfl rfl (by kernel_rfl) (fun _ _ _ h => h) (Or.inl ⟨by rfl, ?_⟩) ?_ ?_
  rotate_left
  · intro w'
    go_simp
    with_reducible rfl
  rotate_left
  · simp only [Act.put, List.setIfInBounds_toArray, List.set_cons_zero, List.set_cons_succ, i64_w, i32_w]
    rfl
  refine pure_ (i := 5) (N := some 78) (v := ?_) (a' := ?_) #[true, true, true, false, true, true, false, false, false, false, false] rfl rfl (by kernel_rfl) (fun _ _ _ h => h) (Or.inl ⟨by rfl, ?_⟩) ?_ ?_
  rotate_left
  · intro w'
    go_simp
    with_reducible rfl
  rotate_left
  · simp only [Act.put, List.setIfInBounds_toArray, List.set_cons_zero, List.set_cons_succ, i64_w, i32_w]
    rfl
  refine pure_ (i := 6) (N := some 79) (v := ?_) (a' := ?_) #[true, true, true, false, true, true, true, false, false, false, false] rfl rfl (by kernel_rfl) (fun _ _ _ h => h) (Or.inl ⟨by rfl, ?_⟩) ?_ ?_
  rotate_left
  · intro w'
    go_simp
    with_reducible rfl
  rotate_left
  · simp only [Act.put, List.setIfInBounds_toArray, List.set_cons_zero, List.set_cons_succ, i64_w, i32_w]
    rfl
  refine take_ (i := 3) (N := some 76) (v := ?_) (a' := ?_) #[true, true, true, true, true, true, true, false, false, false, false] rfl rfl (by kernel_rfl) (fun _ _ _ h => h) (Or.inl ⟨by rfl, ?_⟩) hHeld ?_ ?_
  rotate_left
  · rintro w' ⟨s0, s1⟩
    go_simp
    with_reducible rfl
  rotate_left
  · simp only [Act.put, List.setIfInBounds_toArray, List.set_cons_zero, List.set_cons_succ, i64_w, i32_w]
    rfl
  refine take_ (i := 7) (N := some 80) (v := ?_) (a' := ?_) #[true, true, true, true, true, true, true, true, false, false, false] rfl rfl (by kernel_rfl) (fun _ _ _ h => h) (Or.inl ⟨by rfl, ?_⟩) hHeld ?_ ?_
  rotate_left
  · rintro w' ⟨s0, s1⟩
    go_simp
    with_reducible rfl
  rotate_left
  · simp only [Act.put, List.setIfInBounds_toArray, List.set_cons_zero, List.set_cons_succ, i64_w, i32_w]
    rfl
  refine pure_ (i := 8) (N := some 81) (v := ?_) (a' := ?_) #[true, true, true, true, true, true, true, true, true, false, false] rfl rfl (by kernel_rfl) (fun _ _ _ h => h) (Or.inl ⟨by rfl, ?_⟩) ?_ ?_
  rotate_left
  · intro w'
    go_simp
    with_reducible rfl
  rotate_left
  · simp only [Act.put, List.setIfInBounds_toArray, List.set_cons_zero, List.set_cons_succ, i64_w, i32_w]
    rfl
  refine pure_ (i := 9) (N := some 8) (v := ?_) (a' := ?_) #[true, true, true, true, true, true, true, true, true, true, false] rfl rfl (by kernel_rfl) (fun _ _ _ h => h) (Or.inl ⟨by rfl, ?_⟩) ?_ ?_
  rotate_left
  · intro w'
    go_simp
    with_reducible rfl
  rotate_left
  · simp only [Act.put, List.setIfInBounds_toArray, List.set_cons_zero, List.set_cons_succ, i64_w, i32_w]
    rfl
  refine pure_ (i := 10) (N := some 9) (v := ?_) (a' := ?_) #[true, true, true, true, true, true, true, true, true, true, true] rfl rfl (by kernel_rfl) (fun _ _ _ h => h) (Or.inl ⟨by rfl, ?_⟩) ?_ ?_
  rotate_left
  · intro w'
    go_simp
    with_reducible rfl
  rotate_left
  · simp only [Act.put, List.setIfInBounds_toArray, List.set_cons_zero, List.set_cons_succ, i64_w, i32_w]
    rfl
  refine done_ (by kernel_rfl) ?_
  
  go_wp2_with fail
  go_ret2
  rw [HONE.out]
  exact ⟨rfl, B7.out.drew⟩
end Go.Proofs.YtfgglniigeagdaaDoor.Cn
namespace Go.Proofs.YtfgglniigeagdaaDoor.QD
open Go.RowKit Go.Proofs.YtfgglniigeagdaaDoorW.PrintWords Go.Proofs.YtfgglniigeagdaaDoorW.PrintLast Go.Proofs.YtfgglniigeagdaaDoorW.PrintMore
attribute [local go_sem] max2_int min2_int max_two min_two max_three min_three max_four min_four 
set_option linter.unusedVariables false
set_option linter.unusedSimpArgs false
def ratchetlaw06_ints.l0 : Nat → List Int → List Int → Int → Option (Bool)
  | 0, _, _, _ => none
  | k + 1, x0, x1, x5 => if x5 < (x0.length : Int) then (if 0 ≤ x5 then (if x5 < (x1.length : Int) then (if (rd x0 x5) = (rd x1 x5) then (ratchetlaw06_ints.l0 k x0 x1 (wrap64 (x5 + 1))) else (some false)) else (none)) else (none)) else (some true)
def ratchetlaw06_ints.f (k : Nat) (l0 : List Int) (l1 : List Int) : Option (Bool) := if (l0.length : Int) = (l1.length : Int) then (ratchetlaw06_ints.l0 k l0 l1 0) else (some false)
theorem ratchetlaw06_ints.mono_l : ∀ k, (∀ y0 y1 y2, LeO (ratchetlaw06_ints.l0 k y0 y1 y2) (ratchetlaw06_ints.l0 (k + 1) y0 y1 y2))
  | 0 => fun _ _ _ r h => by simp [ratchetlaw06_ints.l0] at h
  | k + 1 => by
    have ih0 := ratchetlaw06_ints.mono_l k
    · intro y0 y1 y2
      unfold ratchetlaw06_ints.l0
      repeat' first
      | (with_reducible exact ih0 _ _ _)
      | (with_reducible exact LeO.refl _)
      | (with_reducible exact LeO.none _)
      | (with_reducible refine LeO.ite ?_ ?_)
      | (with_reducible refine LeO.bind ?_ (fun _ => ?_))
      | exact ih0 _ _ _
      | exact LeO.none _
      | refine LeO.ite ?_ ?_
      | refine LeO.bind ?_ (fun _ => ?_)
theorem ratchetlaw06_ints.mono : ∀ a0 a1 k, LeO (ratchetlaw06_ints.f k a0 a1) (ratchetlaw06_ints.f (k + 1) a0 a1) := by
  intro a0 a1 k
  have ih0 := ratchetlaw06_ints.mono_l k
  unfold ratchetlaw06_ints.f
  repeat' first
      | (with_reducible exact ih0 _ _ _)
      | (with_reducible exact LeO.refl _)
      | (with_reducible exact LeO.none _)
      | (with_reducible refine LeO.ite ?_ ?_)
      | (with_reducible refine LeO.bind ?_ (fun _ => ?_))
      | exact ih0 _ _ _
      | exact LeO.none _
      | refine LeO.ite ?_ ?_
      | refine LeO.bind ?_ (fun _ => ?_)
set_option maxHeartbeats 8000000 in
set_option maxRecDepth 100000 in
theorem ratchetlaw06_ints.calls (k : Nat) (A0 : Option Addr) (c0 : Nat) (l0 : List Int) (A1 : Option Addr) (c1 : Nat) (l1 : List Int) (r : Bool) (w : World) (hr0 : Kd.C (Kd.int .i64) w A0 l0.length l0) (hc0 : l0.length ≤ c0) (hr1 : Kd.C (Kd.int .i64) w A1 l1.length l1) (hc1 : l1.length ≤ c1) (h : ratchetlaw06_ints.f k l0 l1 = some r) :
    Calls Tryd.prog 20 #[.slice A0 l0.length c0, .slice A1 l1.length c1] w fun e w' => e = .returned (.bool r) ∧ Drawn0 w w' := by
  have HR0 := Aside0.mk hr0
  have HC0 := Aside0.mk hc0
  clear hr0 hc0
  have HR1 := Aside0.mk hr1
  have HC1 := Aside0.mk hc1
  clear hr1 hc1
  have H : (if (l0.length : Int) = (l1.length : Int) then (ratchetlaw06_ints.l0 k l0 l1 0) else (some false)) = some r := h
  clear h
  by_cases c3 : (l0.length : Int) = (l1.length : Int)
  · rw [if_pos c3] at H
    have c3b0 : ((l0.length : Int) == (l1.length : Int)) = true := beq_iff_eq.mpr c3
    have c3b1 : ((l0.length : Int) != (l1.length : Int)) = false := bne_eq_false_iff_eq.mpr c3
    have c3b2 : (l0.length == l1.length) = true := by first | simpa using c3 | (simp at c3 ⊢; omega)
    clear c3
    have H' := Aside0.mk H
    clear H
    go_enter Tryd.func20, Tryd.ntmps20
    go_wp2
    repeat (go_quiet (fail); try go_wp2)
    go_loopg [5] k (fun kq v5 w' => ∃ (x5_1 : Int), v5 = .int .i64 x5_1 ∧ Aside0 (ratchetlaw06_ints.l0 kq l0 l1 x5_1 = some r) ∧ Aside0 (kq ≤ k) ∧ Drawn0 w w')
    case atStart => exact ⟨(0), (by first | rfl | (simp; done) | (simp [*]; done)), H', ⟨Nat.le_refl _⟩, by repeat (first | exact Drawn0.refl _ | apply Drawn0.step)⟩
    case round =>
      clear H'
      try clear c1
      try clear c2
      try clear p2
      try clear c3
      try clear c3b0
      try clear c3b1
      try clear c3b2
      obtain ⟨x5_1, rfl, HA, HK1, ⟨m1, rfl⟩⟩ := hrel
      cases gk with
      | zero => exact absurd HA.out (by simp [ratchetlaw06_ints.l0])
      | succ k1 =>
        have H := HA.out
        clear HA
        simp only [ratchetlaw06_ints.l0] at H
        by_cases c4 : x5_1 < (l0.length : Int)
        · rw [if_pos c4] at H
          have c4b0 : decide (x5_1 < (l0.length : Int)) = true := decide_eq_true c4
          clear c4
          by_cases c5 : 0 ≤ x5_1
          · rw [if_pos c5] at H
            have c5b0 : decide (0 ≤ x5_1) = true := decide_eq_true c5
            clear c5
            by_cases c6 : x5_1 < (l1.length : Int)
            · rw [if_pos c6] at H
              have c6b0 : decide (x5_1 < (l1.length : Int)) = true := decide_eq_true c6
              clear c6
              by_cases c7 : (rd l0 x5_1) = (rd l1 x5_1)
              · rw [if_pos c7] at H
                have c7b0 : ((rd l0 x5_1) == (rd l1 x5_1)) = true := beq_iff_eq.mpr c7
                have c7b1 : ((rd l0 x5_1) != (rd l1 x5_1)) = false := bne_eq_false_iff_eq.mpr c7
                clear c7
                have H' := Aside0.mk H
                clear H
                have p256 : 0 ≤ (x5_1 : Int) := of_decide_eq_true (by first | (with_reducible assumption) | assumption)
                have q256 : x5_1 < (l0.length : Int) := of_decide_eq_true (by first | (with_reducible assumption) | assumption)
                obtain ⟨ad256, e256, hx256_0⟩ := Kd.at_int HR0.out x5_1 p256 q256
                cases e256
                replace p256 := eq_true p256
                replace q256 := eq_true q256
                have p257 : 0 ≤ (x5_1 : Int) := of_decide_eq_true (by first | (with_reducible assumption) | assumption)
                have q257 : x5_1 < (l1.length : Int) := of_decide_eq_true (by first | (with_reducible assumption) | assumption)
                obtain ⟨ad257, e257, hx257_0⟩ := Kd.at_int HR1.out x5_1 p257 q257
                cases e257
                replace p257 := eq_true p257
                replace q257 := eq_true q257
                go_wp2
                repeat (go_quiet (fail); try go_wp2)
                go_roundg k1
                case measure => have := HK1.out; omega
                case rel => exact ⟨(wrap64 (x5_1 + 1)), (by first | rfl | (simp; done) | (simp [*]; done)), H', ⟨by have := HK1.out; omega⟩, by repeat (first | exact Drawn0.refl _ | apply Drawn0.step)⟩
              · rw [if_neg c7] at H
                have c7b0 : ((rd l0 x5_1) == (rd l1 x5_1)) = false := beq_eq_false_iff_ne.mpr c7
                have c7b1 : ((rd l0 x5_1) != (rd l1 x5_1)) = true := bne_iff_ne.mpr c7
                obtain rfl := Option.some.inj H
                have p256 : 0 ≤ (x5_1 : Int) := of_decide_eq_true (by first | (with_reducible assumption) | assumption)
                have q256 : x5_1 < (l0.length : Int) := of_decide_eq_true (by first | (with_reducible assumption) | assumption)
                obtain ⟨ad256, e256, hx256_0⟩ := Kd.at_int HR0.out x5_1 p256 q256
                cases e256
                replace p256 := eq_true p256
                replace q256 := eq_true q256
                have p257 : 0 ≤ (x5_1 : Int) := of_decide_eq_true (by first | (with_reducible assumption) | assumption)
                have q257 : x5_1 < (l1.length : Int) := of_decide_eq_true (by first | (with_reducible assumption) | assumption)
                obtain ⟨ad257, e257, hx257_0⟩ := Kd.at_int HR1.out x5_1 p257 q257
                cases e257
                replace p257 := eq_true p257
                replace q257 := eq_true q257
                go_wp2
                repeat (go_quiet (fail); try go_wp2)
                go_ret
                exact ⟨by first | rfl | (simp; done) | (simp [*]; done), by repeat (first | exact Drawn0.refl _ | apply Drawn0.step)⟩
            · rw [if_neg c6] at H
              exact absurd H (by simp)
          · rw [if_neg c5] at H
            exact absurd H (by simp)
        · rw [if_neg c4] at H
          have c4b0 : decide (x5_1 < (l0.length : Int)) = false := decide_eq_false c4
          clear c4
          obtain rfl := Option.some.inj H
          go_wp2
          repeat (go_quiet (fail); try go_wp2)
          go_ret
          exact ⟨by first | rfl | (simp; done) | (simp [*]; done), by repeat (first | exact Drawn0.refl _ | apply Drawn0.step)⟩
  · rw [if_neg c3] at H
    have c3b0 : ((l0.length : Int) == (l1.length : Int)) = false := beq_eq_false_iff_ne.mpr c3
    have c3b1 : ((l0.length : Int) != (l1.length : Int)) = true := bne_iff_ne.mpr c3
    have c3b2 : (l0.length == l1.length) = false := by first | simpa using c3 | (simp at c3 ⊢; omega)
    obtain rfl := Option.some.inj H
    go_enter Tryd.func20, Tryd.ntmps20
    go_wp2
    repeat (go_quiet (fail); try go_wp2)
    go_ret
    exact ⟨by first | rfl | (simp; done) | (simp [*]; done), by repeat (first | exact Drawn0.refl _ | apply Drawn0.step)⟩
end Go.Proofs.YtfgglniigeagdaaDoor.QD
namespace Go.Proofs.YtfgglniigeagdaaDoor.Cn
set_option linter.unusedSimpArgs false
set_option linter.unusedVariables false
open Go.RowKit Go.Maps Go.Proofs.YtfgglniigeagdaaDoorW.PrintWords Go.Proofs.YtfgglniigeagdaaDoorW.PrintLast Go.Proofs.YtfgglniigeagdaaDoorW.PrintMore Go.Proofs.YtfgglniigeagdaaDoor.QD
theorem oneM_ok {a b : List S62} {x y : Int} (ca : Clo a) (cb : Clo b) (h : 0 ≤ x ∧ x < tcount a ∧ 0 ≤ y ∧ y < tcount b) : oneM a b x y = (rd (oneIds a b).1 x == rd (oneIds a b).2 y, 0) := by
  unfold oneM
  rw [if_pos ⟨ca, cb⟩, if_pos h]
/-- The ids of one list, in a table of its own. -/
theorem oneIds_self {l : List S62} (ht : tcount l ≤ 1048576) : ∃ g1 i1, addTo 9223372036854775807 ([], []) l = some (g1, i1) ∧ oneIds l l = (i1, i1) := by
  obtain ⟨g1, i1, h1, _, _, _⟩ := addTo_room 9223372036854775807 l [] [] (by simp [manyOf]; omega)
  have h2 := addTo_again 9223372036854775807 9223372036854775807 l [] g1 i1 h1 Dist.nil
  refine ⟨g1, i1, h1, ?_⟩
  unfold oneIds
  rw [h1]
  dsimp only
  rw [h2]
theorem one_calls' (A1 : Option Addr) (c1 : Nat) (a : List S62) (A2 : Option Addr) (c2 : Nat) (b : List S62) (x y : Int) (w : World) (ha : LA w A1 c1 a) (hb : LA w A2 c2 b) (htab : Lib.TabBelow Tryd.prog w.heap.size w "internal/strconv.uint64pow10" .u64 Lib.pow10Tab) :
    Calls Tryd.prog 15 #[.slice A1 a.length c1, .slice A2 b.length c2, .int .i64 x, .int .i64 y] w fun e w' => e = .returned (.tuple #[.bool (oneM a b x y).1, .int .i64 (oneM a b x y).2]) ∧ Below w.heap.size w w' :=
  one_calls A1 c1 a A2 c2 b x y w ha.C ha.cap hb.C hb.cap (sok_all (by have := ha.w; omega)) (sok_all (by have := hb.w; omega)) (rin_all (by have := ha.w; omega) ha.inn) (rin_all (by have := hb.w; omega) hb.inn) (by have := ha.w; omega) (by have := hb.w; omega) (by have := ha.w; omega) (by have := hb.w; omega) htab
set_option maxRecDepth 100000 in
theorem same_calls (A : Option Addr) (c : Nat) (l : List S62) (x y : Int) (w : World) (hl : LA w A c l) (htab : Lib.TabBelow Tryd.prog w.heap.size w "internal/strconv.uint64pow10" .u64 Lib.pow10Tab) (b : Bool) (k : Int) (hone : oneM l l x y = (b, k)) :
    Calls Tryd.prog 12 #[.slice A l.length c, .int .i64 x, .int .i64 y] w fun e w' => e = .returned (.tuple #[.bool b, .int .i64 k]) ∧ Below w.heap.size w w' := by
  have K := Aside0.mk (one_calls' A c l A c l x y w hl hl htab)
  rw [hone] at K
  clear hl htab hone
  go_enter Tryd.func12, Tryd.ntmps12
  go_wp2_with fail
  refine K.out.mono ?_
  rintro e w1 ⟨rfl, hb1⟩
  have HB1 := Aside0.mk hb1
  clear hb1 K
  go_wp2_with fail
  go_ret2
  exact ⟨rfl, HB1.out⟩
end Go.Proofs.YtfgglniigeagdaaDoor.Cn
