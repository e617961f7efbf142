/- Parts of the proof of vctlDead_holds (14 of 24): what it says and shows stands at its declarations. -/
import Derived.Test.YtohlmkcgempdlaaGreatDoorZVd13
namespace Go.Proofs.YtohlmkcgempdlaaGreatDoor.Cn
set_option linter.unusedSimpArgs false
set_option maxRecDepth 100000
set_option linter.unusedVariables false
open Go.RowKit Go.Maps Go.Proofs.YtohlmkcgempdlaaGreatDoorW.PrintWords Go.Proofs.YtohlmkcgempdlaaGreatDoorW.PrintLast Go.Proofs.YtohlmkcgempdlaaGreatDoorW.PrintMore Go.Proofs.YtohlmkcgempdlaaGreatDoor.QD
/-- While the types are laid together. -/
structure OPs (L : Value) (w : World) (v : Value) (t : List S123) (W : World) : Prop where
 box : W.heap[w.heap.size]? = some (.cells #[L, .slice none 0 0, v] 178 (0, 0))
 row : Kd.R (kLent k123 w) 123 W (w.heap.size + 1) (fun _ => True) v t
 bel : Below w.heap.size w W
theorem OPs.below {L : Value} {w W W' : World} {v : Value} {t : List S123} (h : OPs L w v t W) (hb : Below W.heap.size W W') : OPs L w v t W' := ⟨blk_below h.box hb, Kd.R_below h.row hb, h.bel.trans (hb.mono h.bel.size)⟩
theorem OPs.app {L : Value} {w W W' : World} {v v' : Value} {t t' : List S123} (h : OPs L w v t W) (hr : Kd.R (kLent k123 w) 123 W' (w.heap.size + 1) (fun _ => True) v' t') (hg : W.grownBy W' v.ownBlock) : W'.heap[w.heap.size]? = some (.cells #[L, .slice none 0 0, v] 178 (0, 0)) ∧ OPs L w v' t' (W'.setCell ⟨w.heap.size, 2, none⟩ v') := by
 have hne : some w.heap.size ≠ v.ownBlock := fun e => by
  have := (Kd.R_bound h.row).1 _ e.symm
  omega
 have bo := blk_grown h.box hg hne
 have hbel : Below w.heap.size W W' := bel_of_grown hg h.bel.size (fun k e => by have := (Kd.R_bound h.row).1 _ e; omega)
 refine ⟨bo, by have := blk_set bo 2 v'; simpa using this, Kd.R_set hr bo (by intro q hq; rcases List.mem_cons.1 hq with rfl | hq; (· decide); cases hq) 2 v', (h.bel.trans hbel).trans ((Below.refl _ _).setCell (p := ⟨w.heap.size, 2, none⟩) (Nat.le_refl _) v')⟩
/-- What sub.opened hands back. -/
def OpOut (l : List S132) (w : World) (e : Ending) (w' : World) : Prop :=
 Below w.heap.size w w' ∧ ((Clo l ∧ e = .returned (.tuple #[.pointer (some ⟨w.heap.size, 0, none⟩), .bool true]) ∧ Ctx l w.heap.size w') ∨ (¬ Clo l ∧ e = .returned (.tuple #[.pointer none, .bool false])))
set_option maxHeartbeats 8000000 in
theorem opened_calls (A : Option Addr) (c : Nat) (l : List S132) (w : World) (hl : LA w A c l) (htab : Lib.TabBelow Tryz.prog w.heap.size w "internal/strconv.uint64pow10" .u64 Lib.pow10Tab) :
  Calls Tryz.prog 82 #[.slice A l.length c] w (OpOut l w) := by
 have HL := Aside0.mk hl
 have HT := Aside0.mk htab
 have htc := tcount_le_wL l
 have hw := hl.w
 have hll : l.length ≤ 1048576 := by omega
 clear hl htab
 go_enter Tryz.func82, Tryz.ntmps82
 go_wp2_with fail
 have ba : Below w.heap.size w (w.alloc (.cells #[.slice A l.length c, .slice none 0 0, .slice none 0 0] 178)) := bz_
 refine (closed_calls A c l _ (HL.out.below ba).C HL.out.cap (by omega) (by omega) (sok_all (by omega))).mono ?_
 rintro e w1 ⟨⟨n1, e1, rfl, h1⟩, hb1⟩
 have T1 : Aside0 (OPs (.slice A l.length c) w (.slice none 0 0) [] w1) := ⟨⟨blk_below (blk_new w _) hb1, Kd.R_nil _ _ _ _ _, ba.trans (hb1.mono ba.size)⟩⟩
 clear hb1 ba
 rcases h1 with ⟨rfl, rfl, hc⟩ | ⟨rfl, hc⟩
 ·have HC := Aside0.mk hc
  clear hc
  go_wp2_with fail
  go_loopw [21] (fun i W => ∃ (j : Nat) (v : Value), i = .int .i64 j ∧ j ≤ l.length ∧ OPs (.slice A l.length c) w v (flat (l.take j)) W) (fun i _ => l.length - (intOf i).toNat)
  case atStart => exact ⟨0, _, rfl, Nat.zero_le _, T1.out⟩
  case round =>
   clear T1
   obtain ⟨j, v, rfl, hj, hT⟩ := hrel
   have L0 := Aside0.mk hT
   clear hT
   have j0 : (0 : Int) ≤ (j : Int) := Int.natCast_nonneg j
   by_cases hlt : j < l.length
   ·obtain ⟨lo, hlo⟩ : ∃ lo : List S123, lo = flat (l.take j) := ⟨_, rfl⟩
    rw [← hlo] at L0
    have hlol : lo.length ≤ 1048576 := by rw [hlo, flat_length]; have := tcount_mono l j l.length hj; rw [List.take_length] at this; omega
    have HLO := Aside0.mk hlo
    clear hlo
    obtain ⟨Av, cv, hvo⟩ := Kd.R_slice L0.out.row
    subst hvo
    obtain ⟨ad, A0, c0, ea, d0, d1, hrc, hrC⟩ := at_T132 HL.out.C (j : Int) j0 (by omega)
    subst ea
    have HRJ := Aside0.mk (rd_RT_at l j hlt)
    simp only [Int.toNat_natCast] at d0 d1
    obtain ⟨r, hre⟩ : ∃ r, r = rd_T132 l (j : Int) := ⟨_, rfl⟩
    rw [← hre] at d0 d1 hrc hrC HRJ
    clear hre
    have hrl : r.f0.length ≤ 1048576 := by have := tcount_take_le l j r HRJ.out; omega
    replace d0 := (L0.out.bel.cell (World.block_lt_of_cell? w _ d0)).trans d0
    replace d1 := (L0.out.bel.cell (World.block_lt_of_cell? w _ d1)).trans d1
    have HRC := Aside0.mk hrC
    have jl : (j : Int) < (l.length : Int) := by omega
    have T0' := L0.out.below ((Below.refl wr.heap.size wr).alloc (Nat.le_refl _) (.cells #[.slice A0 r.f0.length c0, .bool r.f1] 132))
    have T0 : OPs _ w (.slice Av lo.length cv) lo (wr.alloc (.cells #[.slice A0 r.f0.length c0, .bool r.f1] 132)).drew := T0'.below ⟨rfl, rfl, rfl, Nat.le_refl _, fun _ _ => rfl⟩
    clear T0'
    have B0 : (wr.alloc (.cells #[.slice A0 r.f0.length c0, .bool r.f1] 132)).drew.heap[wr.heap.size]? = some (.cells #[.slice A0 r.f0.length c0, .bool r.f1] 132 (0, 0)) := blk_new wr _
    have HSV : Aside0 (some wr.heap.size ≠ (Value.slice Av lo.length cv).ownBlock) := ⟨fun e => by have := Kd.R_lt L0.out.row _ e.symm; omega⟩
    clear hrc hrC
    go_wp2_with fail
    refine start_ (n := 11) (S := fun w' => w'.cell? ⟨w.heap.size, 2, none⟩ = some (.slice Av lo.length cv) ∧ w'.cell? ⟨wr.heap.size, 0, none⟩ = some (.slice A0 r.f0.length c0)) (ds := [10]) (bm_ 11 0) (by kernel_rfl) rfl rfl ⟨(blk_cell T0.box 2).trans rfl, (blk_cell B0 0).trans rfl⟩ (fun hHeld => ?_)
    have HW5 : Aside0 (Below w.heap.size wr (wr.alloc (.cells #[.slice A0 r.f0.length c0, .bool r.f1] 132)).drew) := ⟨((Below.refl _ _).alloc L0.out.bel.size _).drew⟩
    generalize World.drew _ = w5 at T0 B0 HW5 hHeld ⊢
    refine pz_ 0 25 11 1 ?_
    refine pz_ 1 26 11 3 ?_
    refine pz_ 2 27 11 7 ?_
    refine pz_ 3 28 11 15 ?_
    refine pz_ 5 30 11 47 ?_
    refine tz_ 4 29 11 63 hHeld ?_
    refine tz_ 6 31 11 127 hHeld ?_
    refine oz_ 7 32 11 255 fun K hK => ?_
    have hsz_ : w.heap.size + 1 ≤ w5.heap.size := blk_lt T0.box
    refine Kd.R_append_rows_step (kLent k123 w) (Rr := k123.K w) (w0 := w5) (w.heap.size + 1) (by rfl) (.tmp 29) (.tmp 31) 130 123 (.agg #[.bool false, .slice none 0 0, .int .i64 0, .slice none 0 0, .slice none 0 0, .slice none 0 0]) 112 rfl Tryz.underlying130 infoST rfl (show 0 < 6 by decide) (by omega) (.slice Av lo.length cv) lo r.f0 A0 r.f0.length c0 (fun _ => True) (fun k_ => some k_ ≠ (Value.slice Av lo.length cv).ownBlock) rfl rfl T0.row (ReadsRow.imp_ HRC.out ((L0.out.bel.mono (Nat.le_refl _)).trans HW5.out) (fun _ _ h_ => h_)) (fun _ _ h_ => h_) (fun k_ hk_ => ⟨trivial, hk_⟩) (fun _ _ => trivial) (Below.refl _ _) hsz_ (by omega) ?_
    intro v5_ w7 ho _ hg hat
    obtain ⟨A5', c5', e5'⟩ := Kd.R_slice ho
    subst e5'
    obtain ⟨bo, T3⟩ := T0.app ho hg
    have B3 := blk_grown B0 hg HSV.out
    have L3 := Aside0.mk T3
    refine hK.out _ _ ⟨(blk_cell bo 2).trans rfl, (blk_cell B3 0).trans rfl⟩ (fun hHeld => ?_)
    clear hK K
    refine nz_ ?_
    refine pz_ 8 33 11 511 ?_
    refine pz_ 9 34 11 1023 ?_
    refine last_ (i := 10) (N := none) (bm_ 11 2047) rfl rfl (by kernel_rfl) (by decide) (fun K hK => ?_)
    have hs_ : w7.cell? ⟨w.heap.size, 2, none⟩ = some (.slice Av lo.length cv) := (blk_cell bo 2).trans rfl
    have hfs_ : w7.frozen? ⟨w.heap.size, 2, none⟩ = false := blk_frozen bo 2
    refine sz_ ?_
    refine hK.out _ _ ?_
    clear hK K
    refine dz_ ?_

    go_wp2_with fail
    go_roundw
    case rel => exact ⟨j + 1, _, by go_num, by omega, by have e_ : flat (l.take (j + 1)) = lo ++ r.f0 := (by rw [flat_succ HRJ.out, HLO.out]); rw [e_, ← List.length_append]; exact L3.out⟩
    case measure => simp [intOf]; omega
   ·obtain rfl : j = l.length := by omega
    rw [List.take_length] at L0
    clear hj hlt
    obtain ⟨Av, cv, hvo⟩ := Kd.R_slice L0.out.row
    subst hvo
    have x0 : wr.cell? ⟨w.heap.size, 2, none⟩ = some (.slice Av (flat l).length cv) := (blk_cell L0.out.box 2).trans rfl
    have HFL : Aside0 ((flat l).length = tcount l) := ⟨flat_length l⟩
    by_cases hz : 0 < (flat l).length
    ·go_wp2_with fail
     refine (ids_calls A c l _ wr (HL.out.below L0.out.bel) HC.out HFL.out (tab_mono (HT.out.on L0.out.bel) L0.out.bel.size)).mono ?_
     rintro e w5 ⟨v5, I, rfl, hr, hi, hb⟩
     have hz0 := blk_lt L0.out.box
     have bx := blk_below L0.out.box hb
     have y1 : w5.cell? ⟨w.heap.size, 1, none⟩ = some (.slice none 0 0) := (blk_cell bx 1).trans rfl
     have z1 : w5.frozen? ⟨w.heap.size, 1, none⟩ = false := blk_frozen bx 1
     obtain ⟨Ai, ci, ev⟩ := Kd.R_slice hr
     subst ev
     have bx2 := blk_set bx 1 (.slice Ai I.length ci)
     have hr2 := Kd.R_set hr bx (by decide) 1 (.slice Ai I.length ci)
     have rw2 := Kd.R_set (Kd.R_below L0.out.row hb) bx (by intro q hq; rcases List.mem_cons.1 hq with rfl | hq; (· decide); cases hq) 1 (.slice Ai I.length ci)
     have hbb : Below w.heap.size w (w5.setCell ⟨w.heap.size, 1, none⟩ (.slice Ai I.length ci)) := (L0.out.bel.trans (hb.mono L0.out.bel.size)).trans ((Below.refl _ _).setCell (p := ⟨w.heap.size, 1, none⟩) (Nat.le_refl _) _)
     have X : Aside0 (Ctx l w.heap.size (w5.setCell ⟨w.heap.size, 1, none⟩ (.slice Ai I.length ci))) := ⟨⟨_, Ai, ci, Av, cv, I, by simpa using bx2, (Kd.R_reads' hr2).2.1, (Kd.R_reads' rw2).2.1, (Kd.R_reads' hr2).2.2, kLent_C (Kd.R_reads' rw2).2.2 hbb, hi⟩⟩
     have HB := Aside0.mk hbb
     clear hr hi hb hz0 bx bx2 hr2 rw2 hbb
     go_wp2_with fail
     go_ret2
     exact ⟨HB.out, .inl ⟨HC.out, rfl, X.out⟩⟩
    ·go_wp2_with fail
     go_ret2
     have hn : (flat l).length = 0 := by omega
     exact ⟨L0.out.bel, .inl ⟨HC.out, rfl, ⟨⟨_, none, 0, Av, cv, [], L0.out.box, Nat.le_refl _, (Kd.R_reads' L0.out.row).2.1, Kd.C_nil _ _, kLent_C (Kd.R_reads' L0.out.row).2.2 L0.out.bel, ⟨hn.symm, fun x y hx _ => by omega⟩⟩⟩⟩⟩
 ·go_wp2_with fail
  go_ret2
  exact ⟨T1.out.bel, .inr ⟨hc, rfl⟩⟩
end Go.Proofs.YtohlmkcgempdlaaGreatDoor.Cn
