/- Parts of the proof of vctlOpens_holds (17 of 22): what it says and shows stands at its declarations. -/
import Derived.Test.YtohlmkcgempdlaaGreatDoorZO16
import Derived.LoopTactic
namespace Go.Proofs.YtohlmkcgempdlaaGreatDoor.Cn
set_option linter.unusedSimpArgs false
set_option maxRecDepth 100000
set_option linter.unusedVariables false
open Go.RowKit Go.Maps Go.Proofs.YtohlmkcgempdlaaGreatDoorW.PrintWords Go.Proofs.YtohlmkcgempdlaaGreatDoorW.PrintLast Go.Proofs.YtohlmkcgempdlaaGreatDoorW.PrintMore Go.Proofs.YtohlmkcgempdlaaGreatDoor.QD
structure Sml (k : Chk) : Prop where
 loc : k.locals.length ≤ 4294967296
 set : k.sets.length ≤ 4294967296
 res : k.results.length ≤ 4294967296
 ops : k.ops.length ≤ 4294967296
 frs : k.frames.length ≤ 4294967296
section
variable {E : Nat → Prop} {d : Nat} {k : Chk} {w : World}
def CpOut (E : Nat → Prop) (k : Chk) (w : World) (e : Ending) (w' : World) : Prop := ∃ d2, e = .returned (.pointer (some ⟨d2, 0, none⟩)) ∧ w.heap.size ≤ d2 ∧ R13 (fun y => E y ∨ y = d2) d2 k w' ∧ Below w.heap.size w w'
structure QC (E : Nat → Prop) (k : Chk) (w6 : World) (d2 : Nat) (vl vlo vs vst vr : Value) (vf : Value) (j : Nat) (W : World) : Prop where
 bel : Below w6.heap.size w6 W
 box : W.heap[d2]? = some (.cells #[vl, vlo, vs, vst, vf, vr] 64 (0, 0))
 row : Kd.N k139 139 W w6.heap.size (fun y => ¬ E y ∧ y ≠ d2) vf ((k.frames.take j).map Fr.q)
theorem QC.below {w6 : World} {d2 : Nat} {vl vlo vs vst vr vf : Value} {j : Nat} {W W' : World} (h : QC E k w6 d2 vl vlo vs vst vr vf j W) (hb : Below W.heap.size W W') : QC E k w6 d2 vl vlo vs vst vr vf j W' :=
 ⟨h.bel.trans (hb.mono h.bel.size), Aa3 h.box hb, Kd.Bg2 h.row hb⟩
theorem QC.put {w6 : World} {d2 : Nat} {vl vlo vs vst vr vf v1 : Value} {j : Nat} {x : Fr} {W W1 : World} (h : QC E k w6 d2 vl vlo vs vst vr vf j W) (hd2 : w6.heap.size ≤ d2) (hx : k.frames[j]? = some x) (hr : Kd.N k139 139 W1 w6.heap.size (fun y => ¬ E y ∧ y ≠ d2) v1 ((k.frames.take j).map Fr.q ++ [x.q])) (hb : Below w6.heap.size w6 W1) (hg : W.grownBy W1 vf.ownBlock) : QC E k w6 d2 vl vlo vs vst vr v1 (j + 1) (W1.setCell ⟨d2, 4, none⟩ v1) := by
 have hv := Kd.N_ne h.row h.box (by decide)
 have b1 := (hg.block d2 (Ac0 h.box) hv).trans h.box
 refine ⟨hb.setCell (p := ⟨d2, 4, none⟩) hd2 _, by rw [Aa7 b1]; simp, ?_⟩
 have h1 := Kd.N_far (p := ⟨d2, 4, none⟩) hr (fun y hy => hy.2) v1
 rw [List.take_add_one, hx, List.map_append]
 exact h1
set_option maxHeartbeats 8000000 in
theorem Am2 (h : R13 E d k w) (hs : Sml k) : Calls Tryz.prog 56 #[.pointer (some ⟨d, 0, none⟩)] w (CpOut E k w) := by
 obtain ⟨vl, vlo, vs, vst, vf, vr, h⟩ := h
 obtain ⟨Al, cl, rfl⟩ := h.lst.slice
 obtain ⟨Af, cf, rfl⟩ := h.frs.slice
 obtain ⟨m, hm⟩ : ∃ m, m = (k.frames.map Fr.q).length := ⟨_, rfl⟩
 obtain ⟨nl, hnl⟩ : ∃ nl, nl = k.l.length := ⟨_, rfl⟩
 rw [← hm, ← hnl] at h
 have HM : Aa2 (m = k.frames.length) := ⟨by rw [hm, List.length_map]⟩
 have hm2 : m ≤ 4294967296 := by rw [hm, List.length_map]; exact hs.frs
 have H0 := zA h
 have HS := zA hs
 clear hm hnl hs
 go_enter Tryz.func56, Tryz.ntmps56
 go_wp2_with fail
 obtain ⟨w3, hw3⟩ : ∃ w3, World.drew w = w3 := ⟨_, rfl⟩
 have b3 : Below w.heap.size w w3 := by rw [← hw3]; exact (Below.refl _ _).drew
 have H3 := zA (H0.out.below b3)
 have B3 := zA b3
 have z0 := H3.out.c0
 have z1 := H3.out.c1
 have z2 := H3.out.c2
 have z3 := H3.out.c3
 have z5 := H3.out.c5
 clear b3 h
 refine Ab3 (n := 27) (S := fun w' => w'.cell? ⟨d, 0, none⟩ = some (.slice Al nl cl) ∧ w'.cell? ⟨d, 1, none⟩ = some vlo ∧ w'.cell? ⟨d, 2, none⟩ = some vs ∧ w'.cell? ⟨d, 3, none⟩ = some vst ∧ w'.cell? ⟨d, 5, none⟩ = some vr) (ds := []) (bm_ 27 0) (by kernel_rfl) rfl rfl ⟨(by rw [hw3]; exact z0), (by rw [hw3]; exact z1), (by rw [hw3]; exact z2), (by rw [hw3]; exact z3), (by rw [hw3]; exact z5)⟩ (fun hHeld => ?_)
 rw [hw3] at hHeld ⊢
 clear hw3 z0 z1 z2 z3 z5
 refine pz_ 0 5 27 1 ?_
 refine pz_ 1 6 27 3 ?_
 refine pz_ 2 7 27 7 ?_
 refine pz_ 4 9 27 23 ?_
 refine pz_ 5 10 27 55 ?_
 refine pz_ 6 11 27 119 ?_
 refine pz_ 9 14 27 631 ?_
 refine pz_ 10 15 27 1655 ?_
 refine pz_ 11 16 27 3703 ?_
 refine pz_ 14 19 27 20087 ?_
 refine pz_ 15 20 27 52855 ?_
 refine pz_ 16 21 27 118391 ?_
 refine pz_ 19 24 27 642679 ?_
 refine pz_ 20 25 27 1691255 ?_
 refine pz_ 21 26 27 3788407 ?_
 refine tz_ 3 8 27 3788415 hHeld ?_
 refine tz_ 7 12 27 3788543 hHeld ?_
 refine tz_ 12 17 27 3792639 hHeld ?_
 refine tz_ 17 22 27 3923711 hHeld ?_
 refine tz_ 22 27 27 8118015 hHeld ?_
 refine oz_ 8 13 27 8118271 fun K hK => ?_
 refine gz_ Tryz.func67 #[vlo] ?_
 with_reducible refine (Af2 E E k.locals w3 H3.out.loc (by have := HS.out.loc; omega) H3.out.lt).mono ?_
 rintro e w4 ⟨v4, rfl, h4, hb_⟩
 obtain ⟨A4, c4, rfl⟩ := h4.slice
 have L4 := zA h4
 have H4 := zA (H3.out.below hb_)
 have B4 := zA (B3.out.trans (hb_.mono B3.out.size))
 clear h4 hb_
 refine ⟨_, rfl, ?_⟩
 refine hK.out _ _ ⟨H4.out.c0, H4.out.c1, H4.out.c2, H4.out.c3, H4.out.c5⟩ (fun hHeld => ?_)
 clear hK K
 refine nz_ ?_
 refine oz_ 13 18 27 8126463 fun K hK => ?_
 refine gz_ Tryz.func69 #[vs] ?_
 with_reducible refine (Ap4 E E k.sets w4 H4.out.set (by have := HS.out.set; omega) H4.out.lt).mono ?_
 rintro e w5 ⟨v5, rfl, h5, hb_⟩
 obtain ⟨A5, c5, rfl⟩ := h5.slice
 have M5 := zA h5
 have L5 := zA (L4.out.below hb_)
 have H5 := zA (H4.out.below hb_)
 have B5 := zA (B4.out.trans (hb_.mono B4.out.size))
 clear h5 hb_
 refine ⟨_, rfl, ?_⟩
 refine hK.out _ _ ⟨H5.out.c0, H5.out.c1, H5.out.c2, H5.out.c3, H5.out.c5⟩ (fun hHeld => ?_)
 clear hK K
 refine nz_ ?_
 refine oz_ 18 23 27 8388607 fun K hK => ?_
 refine gz_ Tryz.func67 #[vst] ?_
 with_reducible refine (Af2 E E k.ops w5 H5.out.stk (by have := HS.out.ops; omega) H5.out.lt).mono ?_
 rintro e w6 ⟨v6, rfl, h6, hb_⟩
 obtain ⟨A6, c6, rfl⟩ := h6.slice
 have O6 := zA h6
 have M6 := zA (M5.out.below hb_)
 have L6 := zA (L5.out.below hb_)
 have H6 := zA (H5.out.below hb_)
 have B6 := zA (B5.out.trans (hb_.mono B5.out.size))
 clear h6 hb_
 refine ⟨_, rfl, ?_⟩
 refine hK.out _ _ ⟨H6.out.c0, H6.out.c1, H6.out.c2, H6.out.c3, H6.out.c5⟩ (fun hHeld => ?_)
 clear hK K
 refine nz_ ?_
 refine oz_ 23 28 27 16777215 fun K hK => ?_
 refine gz_ Tryz.func67 #[vr] ?_
 with_reducible refine (Af2 E E k.results w6 H6.out.res (by have := HS.out.res; omega) H6.out.lt).mono ?_
 rintro e w7 ⟨v7, rfl, h7, hb_⟩
 obtain ⟨A7, c7, rfl⟩ := h7.slice
 have P7 := zA h7
 have O7 := zA (O6.out.below hb_)
 have M7 := zA (M6.out.below hb_)
 have L7 := zA (L6.out.below hb_)
 have H7 := zA (H6.out.below hb_)
 have B7 := zA (B6.out.trans (hb_.mono B6.out.size))
 clear h7 hb_
 refine ⟨_, rfl, ?_⟩
 refine hK.out _ _ ⟨H7.out.c0, H7.out.c1, H7.out.c2, H7.out.c3, H7.out.c5⟩ (fun hHeld => ?_)
 clear hK K
 refine nz_ ?_
 refine pz_ 24 29 27 33554431 ?_
 refine oz_ 25 30 27 67108863 fun K hK => ?_
 refine vz_ ?_
 refine hK.out _ _ ⟨(H7.out.below ((Below.refl _ _).alloc (Nat.le_refl _) (.cells #[.slice Al nl cl, .slice A4 k.locals.length c4, .slice A5 k.sets.length c5, .slice A6 k.ops.length c6, .slice none 0 0, .slice A7 k.results.length c7] 64))).c0, (H7.out.below ((Below.refl _ _).alloc (Nat.le_refl _) (.cells #[.slice Al nl cl, .slice A4 k.locals.length c4, .slice A5 k.sets.length c5, .slice A6 k.ops.length c6, .slice none 0 0, .slice A7 k.results.length c7] 64))).c1, (H7.out.below ((Below.refl _ _).alloc (Nat.le_refl _) (.cells #[.slice Al nl cl, .slice A4 k.locals.length c4, .slice A5 k.sets.length c5, .slice A6 k.ops.length c6, .slice none 0 0, .slice A7 k.results.length c7] 64))).c2, (H7.out.below ((Below.refl _ _).alloc (Nat.le_refl _) (.cells #[.slice Al nl cl, .slice A4 k.locals.length c4, .slice A5 k.sets.length c5, .slice A6 k.ops.length c6, .slice none 0 0, .slice A7 k.results.length c7] 64))).c3, (H7.out.below ((Below.refl _ _).alloc (Nat.le_refl _) (.cells #[.slice Al nl cl, .slice A4 k.locals.length c4, .slice A5 k.sets.length c5, .slice A6 k.ops.length c6, .slice none 0 0, .slice A7 k.results.length c7] 64))).c5⟩ (fun hHeld => ?_)
 clear hK K
 refine nz_ ?_
 refine pz_ 26 3 27 134217727 ?_
 refine dz_ ?_

 obtain ⟨d2, hd2⟩ : ∃ d2, d2 = w7.heap.size := ⟨_, rfl⟩
 obtain ⟨w8, hw8⟩ : ∃ w8, w8 = w7.alloc (.cells #[.slice Al nl cl, .slice A4 k.locals.length c4, .slice A5 k.sets.length c5, .slice A6 k.ops.length c6, .slice none 0 0, .slice A7 k.results.length c7] 64) := ⟨_, rfl⟩
 have b8 : Below w7.heap.size w7 w8 := by rw [hw8]; exact bz_
 have C8 : Aa2 (QC E k w7 d2 (.slice Al nl cl) (.slice A4 k.locals.length c4) (.slice A5 k.sets.length c5) (.slice A6 k.ops.length c6) (.slice A7 k.results.length c7) (.slice none 0 0) 0 w8) := ⟨b8, by rw [hw8, hd2]; exact Aa6 w7 _, Kd.N_nil _ _ _ _ _⟩
 have HD2 := zA (Nat.le_of_eq hd2.symm)
 rw [← hd2, ← hw8]
 clear hd2 hw8 b8
 go_wp2_with fail
 go_loopw [4] (fun i W => ∃ (j : Nat) (vf : Value), i = .int .i64 j ∧ j ≤ m ∧ QC E k w7 d2 (.slice Al nl cl) (.slice A4 k.locals.length c4) (.slice A5 k.sets.length c5) (.slice A6 k.ops.length c6) (.slice A7 k.results.length c7) vf j W) (fun i _ => m - (intOf i).toNat)
 case atStart => exact ⟨0, _, rfl, Nat.zero_le _, C8.out⟩
 case round =>
  clear C8
  obtain ⟨j, vf, rfl, hj, hqc⟩ := hrel
  have C := zA hqc
  have HW := zA (H7.out.below hqc.bel)
  have c4' : wr.cell? ⟨d, 4, none⟩ = some (.slice Af m cf) := HW.out.c4
  by_cases hlt : j < m
  ·obtain ⟨x, hx⟩ : ∃ x, k.frames[j]? = some x := ⟨_, List.getElem?_eq_getElem (by have := HM.out; omega)⟩
   obtain ⟨ad, D1, e1, D2, e2, D4, e4, eA, hqa⟩ := By3 (H7.out.frs.Cd9 hqc.bel rfl) hx
   subst eA
   obtain ⟨x0, x1, x2, x3, x4, x5, hfk⟩ := hqa
   obtain ⟨Aj, cj, ev⟩ := Kd.As0 hqc.row
   have hlen : ((k.frames.take j).map Fr.q).length = j := by rw [List.length_map, List.length_take]; have := HM.out; omega
   rw [hlen] at ev
   subst ev
   have hbx := hqc.box
   have HX := zA hx
   have HLT := zA hlt
   have HLEN := zA hlen
   have HFK := zA hfk
   have HM2 := zA hm2
   have hlt2 : (j : Int) < (m : Int) := by omega
   have hjj : j ≤ 4294967296 := by omega
   have NB : Aa2 (∀ y, (Value.slice Aj j cj).ownBlock = some y → w7.heap.size ≤ y) := ⟨Kd.Bz8 hqc.row⟩
   have hdd : d ≠ d2 := by have := H7.out.lt d H7.out.own; have := HD2.out; omega
   have HDD := zA hdd
   have y4 := bc_ hbx 4
   clear hx hqc hlen hfk hbx hdd
   go_wp2_with fail
   obtain ⟨w9, hw9⟩ : ∃ w9, World.drew wr = w9 := ⟨_, rfl⟩
   have b9 : Below wr.heap.size wr w9 := by rw [← hw9]; exact (Below.refl _ _).drew
   have C9 := zA (C.out.below b9)
   have FK9 := zA (Kd.An5 HFK.out b9)
   have fx : ∀ {p : Addr} {u : Value}, wr.cell? p = some u → w9.cell? p = some u := fun h_ => b9.kp h_
   have g0 := fx c4'
   have g1 := fx y4
   have g2 := fx x0
   have g3 := fx x1
   have g4 := fx x2
   have g5 := fx x3
   have g6 := fx x4
   have g7 := fx x5
   clear fx b9 c4' y4 x0 x1 x2 x3 x4 x5
   refine Ab3 (n := 17) (S := fun w' => w'.cell? ⟨d, 4, none⟩ = some (.slice (some ad) m cf) ∧ w'.cell? ⟨d2, 4, none⟩ = some (.slice Aj j cj) ∧ w'.cell? (ad.add (j * 6)) = some (.int .i64 x.op) ∧ w'.cell? (⟨(ad.add (j * 6)).block, (ad.add (j * 6)).off + 1, none⟩) = some (.slice D1 x.ins.length e1) ∧ w'.cell? (⟨(ad.add (j * 6)).block, (ad.add (j * 6)).off + 2, none⟩) = some (.slice D2 x.outs.length e2) ∧ w'.cell? (⟨(ad.add (j * 6)).block, (ad.add (j * 6)).off + 3, none⟩) = some (.int .i64 x.height) ∧ w'.cell? (⟨(ad.add (j * 6)).block, (ad.add (j * 6)).off + 4, none⟩) = some (.slice D4 x.sets.length e4) ∧ w'.cell? (⟨(ad.add (j * 6)).block, (ad.add (j * 6)).off + 5, none⟩) = some (.bool x.dead)) (ds := [13, 16]) (bm_ 17 0) (by kernel_rfl) rfl rfl ⟨(by rw [hw9]; exact g0), (by rw [hw9]; exact g1), (by rw [hw9]; exact g2), (by rw [hw9]; exact g3), (by rw [hw9]; exact g4), (by rw [hw9]; exact g5), (by rw [hw9]; exact g6), (by rw [hw9]; exact g7)⟩ (fun hHeld => ?_)
   rw [hw9] at hHeld ⊢
   clear hw9 g0 g1 g2 g3 g4 g5 g6 g7
   refine pz_ 0 40 17 1 ?_
   refine pz_ 1 41 17 3 ?_
   refine pz_ 2 42 17 7 ?_
   refine pz_ 3 43 17 15 ?_
   refine pz_ 5 45 17 47 ?_
   refine pz_ 6 46 17 111 ?_
   refine pz_ 7 47 17 239 ?_
   refine pz_ 9 49 17 751 ?_
   refine tz_ 4 44 17 767 hHeld ?_
   refine tz_ 8 48 17 1023 hHeld ?_
   refine pz_ 10 50 17 2047 ?_
   refine tz_ 11 51 17 4095 hHeld ?_
   refine oz_ 12 52 17 8191 fun K hK => ?_
   refine vz_ ?_
   refine hK.out _ _ ⟨(((Below.refl _ _).alloc (Nat.le_refl _) (.cells #[.int .i64 x.op, .slice D1 x.ins.length e1, .slice D2 x.outs.length e2, .int .i64 x.height, .slice D4 x.sets.length e4, .bool x.dead] 139)).cell (World.block_lt_of_cell? _ _ hHeld.1)).trans hHeld.1, (((Below.refl _ _).alloc (Nat.le_refl _) (.cells #[.int .i64 x.op, .slice D1 x.ins.length e1, .slice D2 x.outs.length e2, .int .i64 x.height, .slice D4 x.sets.length e4, .bool x.dead] 139)).cell (World.block_lt_of_cell? _ _ hHeld.2.1)).trans hHeld.2.1, (((Below.refl _ _).alloc (Nat.le_refl _) (.cells #[.int .i64 x.op, .slice D1 x.ins.length e1, .slice D2 x.outs.length e2, .int .i64 x.height, .slice D4 x.sets.length e4, .bool x.dead] 139)).cell (World.block_lt_of_cell? _ _ hHeld.2.2.1)).trans hHeld.2.2.1, (((Below.refl _ _).alloc (Nat.le_refl _) (.cells #[.int .i64 x.op, .slice D1 x.ins.length e1, .slice D2 x.outs.length e2, .int .i64 x.height, .slice D4 x.sets.length e4, .bool x.dead] 139)).cell (World.block_lt_of_cell? _ _ hHeld.2.2.2.1)).trans hHeld.2.2.2.1, (((Below.refl _ _).alloc (Nat.le_refl _) (.cells #[.int .i64 x.op, .slice D1 x.ins.length e1, .slice D2 x.outs.length e2, .int .i64 x.height, .slice D4 x.sets.length e4, .bool x.dead] 139)).cell (World.block_lt_of_cell? _ _ hHeld.2.2.2.2.1)).trans hHeld.2.2.2.2.1, (((Below.refl _ _).alloc (Nat.le_refl _) (.cells #[.int .i64 x.op, .slice D1 x.ins.length e1, .slice D2 x.outs.length e2, .int .i64 x.height, .slice D4 x.sets.length e4, .bool x.dead] 139)).cell (World.block_lt_of_cell? _ _ hHeld.2.2.2.2.2.1)).trans hHeld.2.2.2.2.2.1, (((Below.refl _ _).alloc (Nat.le_refl _) (.cells #[.int .i64 x.op, .slice D1 x.ins.length e1, .slice D2 x.outs.length e2, .int .i64 x.height, .slice D4 x.sets.length e4, .bool x.dead] 139)).cell (World.block_lt_of_cell? _ _ hHeld.2.2.2.2.2.2.1)).trans hHeld.2.2.2.2.2.2.1, (((Below.refl _ _).alloc (Nat.le_refl _) (.cells #[.int .i64 x.op, .slice D1 x.ins.length e1, .slice D2 x.outs.length e2, .int .i64 x.height, .slice D4 x.sets.length e4, .bool x.dead] 139)).cell (World.block_lt_of_cell? _ _ hHeld.2.2.2.2.2.2.2)).trans hHeld.2.2.2.2.2.2.2⟩ (fun hHeld => ?_)
   clear hK K
   refine nz_ ?_
   refine lz_ 13 53 17 16383 fun K hK => ?_
   refine Kd.Aw6 k139 (w0 := w7) w7.heap.size (by rfl) (.tmp 44) (.tmp 52) 62 139 (.agg #[.int .i64 0, .slice none 0 0, .slice none 0 0, .int .i64 0, .slice none 0 0, .bool false]) 96 rfl Tryz.underlying62 Bm2 rfl (by decide) (by decide) (.slice Aj j cj) ((k.frames.take j).map Fr.q) x.q [.int .i64 x.op, .slice D1 x.ins.length e1, .slice D2 x.outs.length e2, .int .i64 x.height, .slice D4 x.sets.length e4, .bool x.dead] (fun y => ¬ E y ∧ y ≠ d2) (fun y => ¬ E y ∧ y < w7.heap.size) rfl rfl FK9.out (fun y hy => ⟨⟨hy.1, by have := hy.2; have := HD2.out; omega⟩, fun e => by have := NB.out y e.symm; have := hy.2; omega⟩) (fun y hy => ⟨fun e => by have := H7.out.lt y e; have := C9.out.bel.size; omega, fun e => by have := Ac0 C9.out.box; omega⟩) C9.out.row C9.out.bel C9.out.bel.size (by have := HLEN.out; have := HM2.out; have := HLT.out; omega) ?_
   intro v1 w10 hr1 hb1 hg1 _
   have C10 := zA (C9.out.put HD2.out HX.out hr1 hb1 hg1)
   have hv_ : some d2 ≠ (Value.slice Aj j cj).ownBlock := Kd.N_ne C9.out.row C9.out.box (by decide)
   have BX10 := zA ((hg1.block d2 (Ac0 C9.out.box) hv_).trans C9.out.box)
   obtain ⟨A1_, c1_, ev1⟩ := Kd.As0 hr1
   rw [List.length_append, List.length_singleton, HLEN.out] at ev1
   subst ev1
   clear hr1 hb1 hg1 hv_
   refine hK.out _ _ ?_
   clear hK K
   refine nz_ ?_
   refine pz_ 14 54 17 32767 ?_
   refine pz_ 15 55 17 65535 ?_
   refine Ag8 (i := 16) (N := none) (bm_ 17 131071) rfl rfl (by kernel_rfl) (by decide) (fun K hK => ?_)
   have hs_ := bc_ BX10.out 4
   have hfs_ := Aa1 BX10.out 4
   refine sz_ ?_
   refine hK.out _ _ ?_
   clear hK K
   refine dz_ ?_

   go_wp2_with fail
   go_roundw
   case rel => exact ⟨j + 1, .slice A1_ (j + 1) c1_, by go_num, HLT.out, C10.out⟩
   case measure => have := HLT.out; simp [intOf]; omega
  ·obtain rfl : j = m := by omega
   clear hlt hqc
   go_wp2_with fail
   go_ret
   have hfull : (k.frames.take j).map Fr.q = k.frames.map Fr.q := by rw [List.take_of_length_le (by have := HM.out; omega)]
   have hrow := C.out.row
   rw [hfull] at hrow
   have mv : ∀ {α : Type} {K : Kd α} {v : Value} {xs : List α}, LK K E w7 v xs → LK K (fun y => E y ∨ y = d2) wr v xs := fun h_ => h_.to (Chg.of_below C.out.bel (fun _ => False)) (fun _ e => e.elim) (fun x e => e.imp id (fun e => by rw [e]; exact HD2.out))
   have hlf : LK k139 (fun y => E y ∨ y = d2) wr vf (k.frames.map Fr.q) := by
    have h1 := Kd.N_V (base' := 0) hrow
    have h2 : Kd.V k139 0 wr 0 (fun y => ¬ E y ∧ y ≠ d2) vf (k.frames.map Fr.q) := h1
    exact Kd.Az3 h2 (fun y hy e => e.elim hy.1 hy.2)
   refine ⟨d2, rfl, Nat.le_trans B7.out.size HD2.out, ⟨_, _, _, _, _, _, C.out.box, mv H7.out.lst, mv L7.out, mv M7.out, mv O7.out, hlf, mv P7.out, .inr rfl, fun x e => e.elim (fun e => Nat.lt_of_lt_of_le (H7.out.lt x e) C.out.bel.size) (fun e => by rw [e]; exact Ac0 C.out.box), ?_⟩, B7.out.trans (C.out.bel.mono B7.out.size)⟩
   obtain ⟨B, b1, b2, b3⟩ := H7.out.tab
   exact ⟨B, fun x e => e.elim (b1 x) (fun e => by have := HD2.out; omega), Nat.le_trans b2 C.out.bel.size, b3.on ⟨C.out.bel.os, C.out.bel.tape, C.out.bel.output, C.out.bel.size, fun y hy => C.out.bel.block y (by omega)⟩⟩
end
section
variable {E : Nat → Prop} {d : Nat} {k : Chk} {w : World}
theorem RV.flen {vl vlo vs vst vf vr : Value} (h : RV E d k w vl vlo vs vst vf vr) (hn : 0 < k.frames.length) : ∃ Af cf m, vf = .slice Af m cf ∧ m = k.frames.length ∧ ((m : Int) == 0) = false ∧ (m == 0) = false ∧ decide (m = 0) = false := by
 obtain ⟨Af, cf, rfl⟩ := h.frs.slice
 exact ⟨Af, cf, _, rfl, List.length_map .., by rw [List.length_map]; exact beq_eq_false_iff_ne.mpr (by omega), by rw [List.length_map]; exact beq_eq_false_iff_ne.mpr (by omega), by rw [List.length_map]; exact decide_eq_false (by omega)⟩
theorem Cg1 (h : R13 E d k w) (hs : Sml k) (hn : 0 < k.frames.length) (A : Option Addr) (c : Nat) : Calls Tryz.prog 48 #[.pointer (some ⟨d, 0, none⟩), .slice A 0 c] w fun e w' => e = .returned (.int .i64 0) ∧ Below w.heap.size w w' := by
 have K := Am2 h hs
 obtain ⟨vl, vlo, vs, vst, vf, vr, hv⟩ := h
 obtain ⟨Af, cf, m, rfl, hm, h1, h2, h3⟩ := hv.flen hn
 have c4 := hv.c4
 clear hv hs hn hm
 go_enter Tryz.func48, Tryz.ntmps48
 go_wp2_with fail
 refine K.mono ?_
 rintro e w2 ⟨d2, rfl, _, _, hb⟩
 have B := zA hb
 clear hb K c4 h1 h2 h3
 go_wp2_with fail
 refine wp_loop_rounds 1 ?_
 rw [rounds_succ]
 go_wp2_with fail
 go_ret
 exact ⟨rfl, B.out⟩
set_option maxHeartbeats 8000000 in
theorem Cg3 (h : R13 E d k w) (k1 : Chk) (op : Int) {A1 A2 : Option Addr} {c1 c2 : Nat} {l1 l2 : List S39} (hs : Sml k1) (hn : 0 < k1.frames.length) (h1 : LK k39 E w (.slice A1 l1.length c1) l1) (h2 : LK k39 E w (.slice A2 l2.length c2) l2) (hl1 : l1.length ≤ 2147483648) (hl2 : l2.length ≤ 2147483648) (hmo : k1.ops.length ≤ 2147483646)
  (K1 : Calls Tryz.prog 48 #[.pointer (some ⟨d, 0, none⟩), .slice A1 l1.length c1] w (RQ E d k1 (.int .i64 0) w)) :
  Calls Tryz.prog 32 #[.pointer (some ⟨d, 0, none⟩), .int .i64 op, .slice A1 l1.length c1, .slice A2 l2.length c2] w (RQ E d { k1 with ops := k1.ops ++ l1, frames := k1.frames ++ [⟨op, l1, l2, k1.ops.length, k1.sets, false⟩] } (.int .i64 0) w) := by
 have H0 := zA h.own
 have HS := zA hs
 have HL := zA (And.intro hl1 (And.intro hl2 hmo))
 have L1 := zA h1
 have L2 := zA h2
 have HNF := zA hn
 obtain ⟨n1, hn1⟩ : ∃ n1, n1 = l1.length := ⟨_, rfl⟩
 obtain ⟨n2, hn2⟩ : ∃ n2, n2 = l2.length := ⟨_, rfl⟩
 rw [← hn1] at K1 L1 ⊢
 rw [← hn2] at L2 ⊢
 have HN := zA (And.intro hn1 hn2)
 clear h hs hn h1 h2 hl1 hl2 hn1 hn2 hmo
 go_enter Tryz.func32, Tryz.ntmps32
 go_wp2_with fail
 refine K1.mono ?_
 rintro e w2 ⟨rfl, hr2, hc2⟩
 have M1 := zA (L1.out.dstep H0.out hc2)
 have M2 := zA (L2.out.dstep H0.out hc2)
 have C2 := zA hc2
 obtain ⟨vl, vlo, vs, vst, vf, vr, hv⟩ := hr2
 obtain ⟨Af, cf, rfl⟩ := hv.frs.slice
 obtain ⟨Ast, cst, rfl⟩ := hv.stk.slice
 obtain ⟨m, hm⟩ : ∃ m, m = (k1.frames.map Fr.q).length := ⟨_, rfl⟩
 obtain ⟨no, hno⟩ : ∃ no, no = k1.ops.length := ⟨_, rfl⟩
 rw [← hm, ← hno] at hv
 have HM : Aa2 (m = k1.frames.length) := ⟨by rw [hm, List.length_map]⟩
 have HNO := zA hno
 have hm2 : m ≤ 4294967296 := by rw [hm, List.length_map]; exact HS.out.frs
 have H2 := zA hv
 clear hm hno hc2 hv K1
 go_wp2_with fail
 go_loopw [10, 11] (fun v i W => ∃ j : Nat, i = .int .i64 j ∧ j ≤ m ∧ Kd.N k139 139 W w2.heap.size (fun y => ¬ E y) v ((k1.frames.take j).map Fr.q) ∧ Below w2.heap.size w2 W) (fun _ i _ => m - (intOf i).toNat)
 case atStart => exact ⟨0, rfl, Nat.zero_le _, Kd.N_nil _ _ _ _ _, Below.refl _ _⟩
 case round =>
  obtain ⟨j, rfl, hj, hr, hb⟩ := hrel
  have R := zA hr
  have B := zA hb
  have c4' : wr.cell? ⟨d, 4, none⟩ = some (.slice Af m cf) := (H2.out.below hb).c4
  by_cases hlt : j < m
  ·obtain ⟨x, hx⟩ : ∃ x, k1.frames[j]? = some x := ⟨_, List.getElem?_eq_getElem (by have := HM.out; omega)⟩
   obtain ⟨ad, D1, e1, D2, e2, D4, e4, eA, hqa⟩ := By3 (H2.out.frs.Cd9 hb rfl) hx
   subst eA
   obtain ⟨x0, x1, x2, x3, x4, x5, hfk⟩ := hqa
   obtain ⟨Aj, cj, ev⟩ := Kd.As0 hr
   have hlen : ((k1.frames.take j).map Fr.q).length = j := by rw [List.length_map, List.length_take]; have := HM.out; omega
   rw [hlen] at ev
   subst ev
   have HX := zA hx
   have HLT := zA hlt
   have HLEN := zA hlen
   have HFK := zA hfk
   have HM2 := zA hm2
   have hlt2 : (j : Int) < (m : Int) := by omega
   have hjj : j ≤ 4294967296 := by omega
   have NB : Aa2 (∀ y, (Value.slice Aj j cj).ownBlock = some y → w2.heap.size ≤ y) := ⟨Kd.Bz8 hr⟩
   clear hx hr hb hlen hfk
   go_wp2_with (at_builtin; refine Kd.Bz9 k139 (w0 := w2) w2.heap.size rfl (.tmp 27) (.tmp 35) 62 139 (.agg #[.int .i64 0, .slice none 0 0, .slice none 0 0, .int .i64 0, .slice none 0 0, .bool false]) 96 rfl Tryz.underlying62 Bm2 rfl (by decide) (by decide) (.slice Aj j cj) ((k1.frames.take j).map Fr.q) x.q [.int .i64 x.op, .slice D1 x.ins.length e1, .slice D2 x.outs.length e2, .int .i64 x.height, .slice D4 x.sets.length e4, .bool x.dead] (fun y => ¬ E y) (fun y => ¬ E y ∧ y < w2.heap.size) rfl rfl HFK.out (fun y hy => ⟨hy.1, fun e => by have := NB.out y e.symm; have := hy.2; omega⟩) (fun y hy e => by have := H2.out.lt y e; have := B.out.size; omega) R.out B.out B.out.size (by have := HLEN.out; have := HM2.out; have := HLT.out; omega) ?_; intro v1 w1 hr1 hb1 _ _; have R1 := zA hr1; have B1 := zA hb1; clear hr1 hb1)
   go_roundw
   case rel => exact ⟨j + 1, by go_num, HLT.out, by rw [List.take_add_one, HX.out, List.map_append]; exact R1.out, B1.out⟩
   case measure => have := HLT.out; simp [intOf]; omega
  ·obtain rfl : j = m := by omega
   clear hlt
   have hfull : (k1.frames.take j) = k1.frames := List.take_of_length_le (by have := HM.out; omega)
   rw [hfull] at hr
   obtain ⟨Ag, cg, ev⟩ := Kd.As0 hr
   rw [List.length_map, ← HM.out] at ev
   subst ev
   have b3 : Below wr.heap.size wr wr.drew := (Below.refl _ _).drew
   have R3 := zA (Kd.Bg2 hr b3)
   have H3 := zA ((H2.out.below hb).below b3)
   have B3 := zA (hb.trans (b3.mono hb.size))
   have X1 := zA ((M1.out.below hb).below b3)
   have X2 := zA ((M2.out.below hb).below b3)
   clear hr hb b3 hfull
   go_wp2_with fail
   obtain ⟨w3, hw3⟩ : ∃ w3, World.drew wr = w3 := ⟨_, rfl⟩
   rw [hw3] at R3 H3 B3 X1 X2
   have z2 : w3.cell? ⟨d, 2, none⟩ = some vs := H3.out.c2
   have z3 : w3.cell? ⟨d, 3, none⟩ = some (.slice Ast no cst) := H3.out.c3
   have z4 : w3.cell? ⟨d, 4, none⟩ = some (.slice Af j cf) := H3.out.c4
   refine Ab3 (n := 23) (S := fun w' => w'.cell? ⟨d, 2, none⟩ = some vs ∧ w'.cell? ⟨d, 3, none⟩ = some (.slice Ast no cst) ∧ w'.cell? ⟨d, 4, none⟩ = some (.slice Af j cf)) (ds := [19, 22]) (bm_ 23 0) (by kernel_rfl) rfl rfl ⟨(by rw [hw3]; exact z2), (by rw [hw3]; exact z3), (by rw [hw3]; exact z4)⟩ (fun hHeld => ?_)
   rw [hw3] at hHeld ⊢
   clear hw3 z2 z3 z4
   refine pz_ 0 37 23 1 ?_
   refine pz_ 1 38 23 3 ?_
   refine pz_ 2 39 23 7 ?_
   refine pz_ 3 40 23 15 ?_
   refine pz_ 5 42 23 47 ?_
   refine pz_ 7 44 23 175 ?_
   refine pz_ 8 45 23 431 ?_
   refine pz_ 9 46 23 943 ?_
   refine pz_ 12 49 23 5039 ?_
   refine pz_ 13 50 23 13231 ?_
   refine pz_ 14 51 23 29615 ?_
   refine tz_ 10 47 23 30639 hHeld ?_
   refine pz_ 11 48 23 32687 ?_
   refine tz_ 15 52 23 65455 hHeld ?_
   refine oz_ 4 41 23 65471 fun K hK => ?_
   refine gz_ Tryz.func67 #[.slice A1 n1 c1] ?_
   with_reducible refine (Af2 E (fun y => E y ∨ (Value.slice Ag j cg).ownBlock = some y) l1 w3 X1.out (by have := HL.out.1; omega) (fun y e => e.elim (H3.out.lt y) (fun e => Kd.N_lt R3.out y e))).mono ?_
   rintro e w4 ⟨v4, rfl, h4, hb_⟩
   obtain ⟨Aa, ca, rfl⟩ := h4.slice
   have I4 := zA h4
   have X4 := zA (X2.out.below hb_)
   have R4 := zA (Kd.Bg2 R3.out hb_)
   have H4 := zA (H3.out.below hb_)
   have B4 := zA (B3.out.trans (hb_.mono B3.out.size))
   clear h4 hb_
   refine ⟨_, rfl, ?_⟩
   refine hK.out _ _ ⟨H4.out.c2, H4.out.c3, H4.out.c4⟩ (fun hHeld => ?_)
   clear hK K
   refine nz_ ?_
   refine oz_ 6 43 23 65535 fun K hK => ?_
   refine gz_ Tryz.func67 #[.slice A2 n2 c2] ?_
   with_reducible refine (Af2 E (fun y => E y ∨ (Value.slice Ag j cg).ownBlock = some y) l2 w4 X4.out (by have := HL.out.2.1; omega) (fun y e => e.elim (H4.out.lt y) (fun e => Kd.N_lt R4.out y e))).mono ?_
   rintro e w5 ⟨v5, rfl, h5, hb_⟩
   obtain ⟨Ab, cb, rfl⟩ := h5.slice
   have J5 := zA h5
   have I5 := zA (I4.out.below hb_)
   have R5 := zA (Kd.Bg2 R4.out hb_)
   have H5 := zA (H4.out.below hb_)
   have B5 := zA (B4.out.trans (hb_.mono B4.out.size))
   clear h5 hb_
   refine ⟨_, rfl, ?_⟩
   refine hK.out _ _ ⟨H5.out.c2, H5.out.c3, H5.out.c4⟩ (fun hHeld => ?_)
   clear hK K
   refine nz_ ?_
   refine oz_ 16 53 23 131071 fun K hK => ?_
   refine gz_ Tryz.func69 #[vs] ?_
   with_reducible refine (Ap4 E (fun y => E y ∨ (Value.slice Ag j cg).ownBlock = some y) k1.sets w5 H5.out.set (by have := HS.out.set; omega) (fun y e => e.elim (H5.out.lt y) (fun e => Kd.N_lt R5.out y e))).mono ?_
   rintro e w6 ⟨v6, rfl, h6, hb_⟩
   obtain ⟨Ac, cc, rfl⟩ := h6.slice
   have S6 := zA h6
   have J6 := zA (J5.out.below hb_)
   have I6 := zA (I5.out.below hb_)
   have R6 := zA (Kd.Bg2 R5.out hb_)
   have H6 := zA (H5.out.below hb_)
   have B6 := zA (B5.out.trans (hb_.mono B5.out.size))
   clear h6 hb_
   refine ⟨_, rfl, ?_⟩
   refine hK.out _ _ ⟨H6.out.c2, H6.out.c3, H6.out.c4⟩ (fun hHeld => ?_)
   clear hK K
   refine nz_ ?_
   refine pz_ 17 54 23 262143 ?_
   refine oz_ 18 55 23 524287 fun K hK => ?_
   refine vz_ ?_
   refine hK.out _ _ ⟨(((Below.refl _ _).alloc (Nat.le_refl _) (.cells #[.int .i64 op, .slice Aa l1.length ca, .slice Ab l2.length cb, .int .i64 no, .slice Ac k1.sets.length cc, .bool false] 139)).cell (World.block_lt_of_cell? _ _ hHeld.1)).trans hHeld.1, (((Below.refl _ _).alloc (Nat.le_refl _) (.cells #[.int .i64 op, .slice Aa l1.length ca, .slice Ab l2.length cb, .int .i64 no, .slice Ac k1.sets.length cc, .bool false] 139)).cell (World.block_lt_of_cell? _ _ hHeld.2.1)).trans hHeld.2.1, (((Below.refl _ _).alloc (Nat.le_refl _) (.cells #[.int .i64 op, .slice Aa l1.length ca, .slice Ab l2.length cb, .int .i64 no, .slice Ac k1.sets.length cc, .bool false] 139)).cell (World.block_lt_of_cell? _ _ hHeld.2.2)).trans hHeld.2.2⟩ (fun hHeld => ?_)
   clear hK K
   refine nz_ ?_
   refine lz_ 19 56 23 1048575 fun K hK => ?_
   have mvE : ∀ y, (¬ (E y ∨ (Value.slice Ag j cg).ownBlock = some y)) → (¬ E y ∧ some y ≠ (Value.slice Ag j cg).ownBlock) := fun y hy => ⟨fun e => hy (.inl e), fun e => hy (.inr e.symm)⟩
   have FKN : Aa2 (Kd.FK k139 w6 (fun y => ¬ E y ∧ some y ≠ (Value.slice Ag j cg).ownBlock) (Fr.q ⟨op, l1, l2, no, k1.sets, false⟩) [.int .i64 op, .slice Aa l1.length ca, .slice Ab l2.length cb, .int .i64 no, .slice Ac k1.sets.length cc, .bool false]) := ⟨Bl9 w6 _ (Fr.q ⟨op, l1, l2, no, k1.sets, false⟩) I6.out.reads.2.1 (Kd.Ca0 I6.out.F mvE) J6.out.reads.2.1 (Kd.Ca0 J6.out.F mvE) S6.out.reads.2.1 (Kd.Ca0 S6.out.F mvE)⟩
   clear mvE
   refine Kd.Aw6 k139 (w0 := w2) w2.heap.size (by rfl) (.tmp 38) (.tmp 55) 62 139 (.agg #[.int .i64 0, .slice none 0 0, .slice none 0 0, .int .i64 0, .slice none 0 0, .bool false]) 96 rfl Tryz.underlying62 Bm2 rfl (by decide) (by decide) (.slice Ag j cg) (k1.frames.map Fr.q) (Fr.q ⟨op, l1, l2, no, k1.sets, false⟩) [.int .i64 op, .slice Aa l1.length ca, .slice Ab l2.length cb, .int .i64 no, .slice Ac k1.sets.length cc, .bool false] (fun y => ¬ E y) (fun y => ¬ E y ∧ some y ≠ (Value.slice Ag j cg).ownBlock) rfl rfl FKN.out (fun y hy => hy) (fun y hy e => by have := H6.out.lt y e; omega) R6.out B6.out B6.out.size (by rw [List.length_map, ← HM.out]; omega) ?_
   intro v1 w7 hr1 hb1 hg1 _
   have R7 := zA hr1
   have B7 := zA hb1
   have G7 := zA (H2.out.below hb1)
   obtain ⟨A7, c7, ev1⟩ := Kd.As0 hr1
   rw [List.length_append, List.length_singleton, List.length_map, ← HM.out] at ev1
   subst ev1
   clear hr1 hb1 hg1
   refine hK.out _ _ ?_
   clear hK K
   refine nz_ ?_
   refine pz_ 20 57 23 2097151 ?_
   refine pz_ 21 58 23 4194303 ?_
   refine Ag8 (i := 22) (N := none) (bm_ 23 8388607) rfl rfl (by kernel_rfl) (by decide) (fun K hK => ?_)
   have hs_ : w7.cell? ⟨d, 4, none⟩ = some (.slice Af j cf) := G7.out.c4
   have hfs_ : w7.frozen? ⟨d, 4, none⟩ = false := Aa1 G7.out.box 4
   refine sz_ ?_
   refine hK.out _ _ ?_
   clear hK K
   refine dz_ ?_

   have hlf : LK k139 E w7 (.slice A7 (j + 1) c7) ((k1.frames ++ [(⟨op, l1, l2, no, k1.sets, false⟩ : Fr)]).map Fr.q) := by
    rw [List.map_append]
    have h1 := Kd.N_V (base' := 0) R7.out
    have h2 : Kd.V k139 0 w7 0 (fun y => ¬ E y) (.slice A7 (j + 1) c7) (k1.frames.map Fr.q ++ [Fr.q ⟨op, l1, l2, no, k1.sets, false⟩]) := h1
    exact h2
   have S8 := zA (G7.out.frames hlf)
   have C8 : Aa2 (Chg (fun x => x = d) w2 (w7.setCell ⟨d, 4, none⟩ (.slice A7 (j + 1) c7))) := ⟨(Chg.of_below B7.out (fun _ => False)).trans (Ae0 w7 d 4 _) (fun _ e => e.elim) (fun _ e => .inl e)⟩
   obtain ⟨w8, hw8⟩ : ∃ w8, w8 = w7.setCell ⟨d, 4, none⟩ (.slice A7 (j + 1) c7) := ⟨_, rfl⟩
   rw [← hw8] at S8 C8 ⊢
   have L8 := M1.out.dstep H0.out C8.out
   have hr8 : R13 E d _ w8 := ⟨_, _, _, _, _, _, S8.out⟩
   have K2 := Al4 hr8 (A := A1) (c := c1) (l := l1) (by rw [← HN.out.1]; exact L8) (by dsimp only; rw [List.length_append]; have := HNF.out; omega) (by have := HL.out; dsimp only; omega)
   rw [← HN.out.1] at K2
   clear hw8 L8 hlf c4' hr8
   go_wp2_with fail
   refine K2.mono ?_
   rintro e w9 ⟨rfl, h9, hc9⟩
   have Q9 := zA h9
   have C9 := zA ((C2.out.trans C8.out (fun _ e => .inl e) (fun _ e => .inl e)).trans hc9 (fun _ e => .inl e) (fun _ e => .inl e))
   clear h9 hc9 K2
   go_wp2_with fail
   go_ret
   exact ⟨rfl, by have h_ := Q9.out; rw [HNO.out] at h_; exact h_, C9.out⟩
theorem Cb9 (h : R13 E d k w) (op : Int) {A2 : Option Addr} {c2 : Nat} {l2 : List S39} (hs : Sml k) (hn : 0 < k.frames.length) (h2 : LK k39 E w (.slice A2 l2.length c2) l2) (hl2 : l2.length ≤ 2147483648) (hmo : k.ops.length ≤ 2147483646) :
  Calls Tryz.prog 32 #[.pointer (some ⟨d, 0, none⟩), .int .i64 op, .slice none 0 0, .slice A2 l2.length c2] w (RQ E d { k with frames := k.frames ++ [⟨op, [], l2, k.ops.length, k.sets, false⟩] } (.int .i64 0) w) := by
 have K := Cg3 (A1 := none) (c1 := 0) (l1 := []) h k op hs hn (LK.nil k39 E w) h2 (Nat.zero_le _) hl2 hmo ((Cg1 h hs hn none 0).mono (fun e w' ⟨e1, hb⟩ => ⟨e1, h.below hb, Chg.of_below hb _⟩))
 have e : k.ops ++ ([] : List S39) = k.ops := List.append_nil _
 rw [e] at K
 exact K
end
theorem lk_qlit {S : Nat → Prop} (W : World) (f : Fr) (cs : List Value) (hl : cs.length = 6) (hoc : ∀ u, u ∈ cs → u.oneCell' = true) (hf : Kd.FK k139 (W.alloc (.cells cs.toArray 139)) (fun y => ¬ S y) f.q cs) (hS : ∀ y, S y → y < W.heap.size) : LK k139 S (W.alloc (.cells cs.toArray 139)) (.slice (some ⟨W.heap.size, 0, none⟩) 1 1) ([f].map Fr.q) := by
 have h1 : (Kd.raw 6).R 139 (W.alloc (.cells cs.toArray 139)) W.heap.size (fun _ => True) (.slice (some ⟨W.heap.size, 0, none⟩) 1 1) [cs] :=
  ⟨fun _ _ => trivial, Aj8.lit (ps := [cs]) W W.heap.size (inner := cs) ((Reps.none _ _).snoc ⟨rfl, hl, hoc⟩ hl) (Nat.le_refl _) (by simp)⟩
 refine As4 (d := k139) (rows := [cs]) rfl h1 (fun j x c hx hc => ?_) hS
 match j with
 | 0 =>
  simp only [List.map_cons, List.getElem?_cons_zero, Option.some.injEq] at hx hc
  rw [← hx, ← hc]
  exact hf
 | j + 1 => simp at hx
structure QW (w2 : World) (vl vr vlo vs : Value) (locs : List S39) (sets : List Bool) (W : World) : Prop where
 bel : Below w2.heap.size w2 W
 box : W.heap[w2.heap.size]? = some (.cells #[vl, vlo, vs, .slice none 0 0, .slice none 0 0, vr] 64 (0, 0))
 loc : Kd.R k39 39 W w2.heap.size (fun _ => True) vlo locs
 set : Kd.R Kd.bool 4 W w2.heap.size (fun _ => True) vs sets
section
variable {w2 : World} {vl vr vlo vs v1 : Value} {locs : List S39} {sets : List Bool} {W W1 : World}
theorem QW.below (h : QW w2 vl vr vlo vs locs sets W) (hb : Below W.heap.size W W1) : QW w2 vl vr vlo vs locs sets W1 :=
 ⟨h.bel.trans (hb.mono h.bel.size), Aa3 h.box hb, Kd.Ac5 h.loc hb, Kd.Ac5 h.set hb⟩
theorem QW.putl {x : S39} (h : QW w2 vl vr vlo vs locs sets W) (hr : Kd.R k39 39 W1 w2.heap.size (fun _ => True) v1 (locs ++ [x])) (hb : Below w2.heap.size w2 W1) (hg : W.grownBy W1 vlo.ownBlock) : QW w2 vl vr v1 vs (locs ++ [x]) sets (W1.setCell ⟨w2.heap.size, 1, none⟩ v1) := by
 have b1 := (hg.block _ (Ac0 h.box) (Kd.R_ne h.loc h.box (by decide))).trans h.box
 refine ⟨hb.setCell (p := ⟨w2.heap.size, 1, none⟩) (Nat.le_refl _) _, by rw [Aa7 b1]; simp, Kd.Ac3 hr b1 (by decide) 1 v1, Kd.Ac3 (Kd.Az4 h.set h.loc (by decide) hg) b1 (by decide) 1 v1⟩
theorem QW.puts {x : Bool} (h : QW w2 vl vr vlo vs locs sets W) (hr : Kd.R Kd.bool 4 W1 w2.heap.size (fun _ => True) v1 (sets ++ [x])) (hb : Below w2.heap.size w2 W1) (hg : W.grownBy W1 vs.ownBlock) : QW w2 vl vr vlo v1 locs (sets ++ [x]) (W1.setCell ⟨w2.heap.size, 2, none⟩ v1) := by
 have b1 := (hg.block _ (Ac0 h.box) (Kd.R_ne h.set h.box (by decide))).trans h.box
 refine ⟨hb.setCell (p := ⟨w2.heap.size, 2, none⟩) (Nat.le_refl _) _, by rw [Aa7 b1]; simp, Kd.Ac3 (Kd.Az4 h.loc h.set (by decide) hg) b1 (by decide) 2 v1, Kd.Ac3 hr b1 (by decide) 2 v1⟩
theorem Ch7 {α : Type} {d : Kd α} {e : Nat} {W : World} {b g t : Nat} {v : Value} {xs : List α} {cells : Array Value} {D : Nat → Prop} (h : d.R e W b (fun _ => True) v xs) (hb : W.heap[g]? = some (.cells cells t (0, 0))) (ht : ∀ q, q ∈ e :: d.E → q ≠ t) (hD : ∀ y, D y → y < b) : LK d (fun y => D y ∨ y = g) W v xs := by
 have h1 := Kd.R_V (base' := 0) (Kd.Af6 (Kd.Cm2 h hb ht))
 refine Kd.Az3 (show Kd.V d 0 W 0 _ v xs from h1) (fun k hk e => ?_)
 exact e.elim (fun e => by have := hD k e; have := hk.2.1; omega) (fun e => hk.1.2 e)
theorem QW.done {D : Nat → Prop} {w2' : World} {l : List S132} {res : List S39} (h : QW w2 vl vr vlo vs locs sets W) (h0 : LK k132 D w2 vl l) (h1 : LK k39 D w2 vr res) (hD : ∀ y, D y → y < w2.heap.size) (B : Nat) (hB : ∀ y, D y → B ≤ y) (hB2 : B ≤ w2.heap.size) (htb : Lib.TabBelow Tryz.prog B w2 "internal/strconv.uint64pow10" .u64 Lib.pow10Tab) :
  RV (fun y => D y ∨ y = w2.heap.size) w2.heap.size ⟨l, locs, sets, res, [], []⟩ W vl vlo vs (.slice none 0 0) (.slice none 0 0) vr := by
 have mv : ∀ {α : Type} {K : Kd α} {v : Value} {xs : List α}, LK K D w2 v xs → LK K (fun y => D y ∨ y = w2.heap.size) W v xs := fun h_ => h_.to (Chg.of_below h.bel (fun _ => False)) (fun _ e => e.elim) (fun x e => e.imp id (fun e => by rw [e]; exact Nat.le_refl _))
 refine ⟨h.box, mv h0, Ch7 h.loc h.box (by decide) hD, Ch7 h.set h.box (by decide) hD, LK.nil _ _ _, LK.nil _ _ _, mv h1, .inr rfl, fun x e => e.elim (fun e => Nat.lt_of_lt_of_le (hD x e) h.bel.size) (fun e => by rw [e]; exact Ac0 h.box), B, fun x e => e.elim (hB x) (fun e => by rw [e]; exact hB2), Nat.le_trans hB2 h.bel.size, htb.on ⟨h.bel.os, h.bel.tape, h.bel.output, h.bel.size, fun k hk => h.bel.block k (by omega)⟩⟩
end
def QNewOut (D : Nat → Prop) (k : Chk) (w : World) (e : Ending) (w' : World) : Prop := ∃ g, e = .returned (.pointer (some ⟨g, 0, none⟩)) ∧ w.heap.size ≤ g ∧ R13 (fun y => D y ∨ y = g) g k w' ∧ Below w.heap.size w w'
set_option maxHeartbeats 16000000 in
theorem Cb5 (D : Nat → Prop) (A : Option Addr) (c : Nat) (l : List S132) (A1 : Option Addr) (c1 : Nat) (ps : List S39) (A2 : Option Addr) (c2 : Nat) (ls : List S39) (A3 : Option Addr) (c3 : Nat) (rs : List S39) (w : World) (h : LK k132 D w (.slice A l.length c) l) (h1 : LK k39 D w (.slice A1 ps.length c1) ps) (h2 : LK k39 D w (.slice A2 ls.length c2) ls) (h3 : LK k39 D w (.slice A3 rs.length c3) rs) (hD : ∀ y, D y → y < w.heap.size) (hp : ps.length ≤ 1048576) (hll : ls.length ≤ 1048576) (hrl : rs.length ≤ 1048576)
  (B : Nat) (hB : ∀ y, D y → B ≤ y) (hB2 : B ≤ w.heap.size) (htb : Lib.TabBelow Tryz.prog B w "internal/strconv.uint64pow10" .u64 Lib.pow10Tab) :
  Calls Tryz.prog 30 #[.slice A l.length c, .slice A1 ps.length c1, .slice A2 ls.length c2, .slice A3 rs.length c3] w (QNewOut D ⟨l, ps ++ ls, Ae2 ps.length (ps ++ ls), rs, [], [⟨2, [], rs, 0, Ae2 ps.length (ps ++ ls), false⟩]⟩ w) := by
 have K0 := Af2 D D rs w h3 (by omega) hD
 obtain ⟨n0, hn0⟩ : ∃ n0, n0 = l.length := ⟨_, rfl⟩
 obtain ⟨n1, hn1⟩ : ∃ n1, n1 = ps.length := ⟨_, rfl⟩
 obtain ⟨n2, hn2⟩ : ∃ n2, n2 = ls.length := ⟨_, rfl⟩
 obtain ⟨n3, hn3⟩ : ∃ n3, n3 = rs.length := ⟨_, rfl⟩
 obtain ⟨loc, hloc⟩ : ∃ loc, loc = ps ++ ls := ⟨_, rfl⟩
 rw [← hn3] at K0
 have HH := zA (And.intro h (And.intro h1 (And.intro h2 h3)))
 have HD := zA hD
 have HL := zA (And.intro hp (And.intro hll hrl))
 have HN := zA (And.intro hn1 (And.intro hn2 (And.intro hn3 hn0)))
 have HB := zA (And.intro hB (And.intro hB2 htb))
 have HLOC := zA hloc
 rw [← hloc]
 rw [← hn0, ← hn1, ← hn2, ← hn3]
 have hb1 : n1 ≤ 1048576 := by omega
 have hb2 : n2 ≤ 1048576 := by omega
 clear h h1 h2 h3 hD hp hll hrl hn0 hn1 hn2 hn3 hB hB2 htb hloc
 go_enter Tryz.func30, Tryz.ntmps30
 go_wp2_with fail
 refine K0.mono ?_
 rintro e w2 ⟨vr, rfl, hkr, hbw⟩
 have B2 := zA hbw
 obtain ⟨Ar, cr, rfl⟩ := hkr.slice
 rw [← HN.out.2.2.1] at hkr ⊢
 have KR := zA hkr
 obtain ⟨G, hG⟩ : ∃ G, G = w2.heap.size := ⟨_, rfl⟩
 obtain ⟨w3, hw3⟩ : ∃ w3, w3 = w2.alloc (.cells #[.slice A n0 c, .slice none 0 0, .slice none 0 0, .slice none 0 0, .slice none 0 0, .slice Ar n3 cr] 64) := ⟨_, rfl⟩
 have N3 : Aa2 (QW w2 (.slice A n0 c) (.slice Ar n3 cr) (.slice none 0 0) (.slice none 0 0) [] [] w3) := ⟨by rw [hw3]; exact bz_, by rw [hw3]; exact Aa6 w2 _, Kd.Aj9 _ _ _ _ _, Kd.Aj9 _ _ _ _ _⟩
 clear hkr hbw K0
 go_wp2_with fail
 rw [← hG, ← hw3]
 clear hw3
 have HG := zA hG
 clear hG
 have HDL : Aa2 (loc.length = n1 + n2) := ⟨by rw [HLOC.out, List.length_append, ← HN.out.1, ← HN.out.2.1]⟩
 go_loopw [10] (fun i W => ∃ (j : Nat) (vlo vs : Value), i = .int .i64 j ∧ j ≤ n1 ∧ QW w2 (.slice A n0 c) (.slice Ar n3 cr) vlo vs (loc.take j) ((Ae2 n1 loc).take j) W) (fun i _ => n1 - (intOf i).toNat)
 case atStart => exact ⟨0, _, _, rfl, Nat.zero_le _, N3.out⟩
 case round =>
  clear N3
  obtain ⟨j, vlo, vs, rfl, hj, hqw⟩ := hrel
  have N1 := zA hqw
  by_cases hlt : j < n1
  ·obtain ⟨x, hx⟩ : ∃ x, ps[j]? = some x := ⟨_, List.getElem?_eq_getElem (by rw [← HN.out.1]; exact hlt)⟩
   have hxl : loc[j]? = some x := by rw [HLOC.out, List.getElem?_append_left (by rw [← HN.out.1]; exact hlt)]; exact hx
   have HSX : Aa2 ((Ae2 n1 loc)[j]? = some true) := ⟨by rw [Bc2 n1 hxl]; simp [hlt]⟩
   have HX := zA hxl
   have bw := B2.out.trans (hqw.bel.mono B2.out.size)
   obtain ⟨ad, eA, x0, x1, x2⟩ := Bg7 ((HH.out.2.1.below bw).reads.2.2) hx
   subst eA
   obtain ⟨Aj, cj, ev⟩ := Kd.Aa9 hqw.loc
   have hlen : (loc.take (j)).length = j := by rw [List.length_take]; have := HDL.out; omega
   rw [hlen] at ev
   subst ev
   have HLEN := zA hlen
   have HLT := zA hlt
   have HLT2 : Aa2 (j ≤ 4194304) := ⟨by omega⟩
   have hlt2 : (j : Int) < (n1 : Int) := by omega
   have hjj : j ≤ 1048576 := by omega
   have BX := hqw.box
   rw [← HG.out] at BX
   have y1 := bc_ BX 1
   clear hx hxl hqw hlen BX bw
   go_wp2_with fail
   obtain ⟨w9, hw9⟩ : ∃ w9, World.drew wr = w9 := ⟨_, rfl⟩
   have b9 : Below wr.heap.size wr w9 := by rw [← hw9]; exact (Below.refl _ _).drew
   have N9 := zA (N1.out.below b9)
   have fx : ∀ {p : Addr} {u : Value}, wr.cell? p = some u → w9.cell? p = some u := fun h_ => b9.kp h_
   have g0 := fx y1
   have g1 := fx x0
   have g2 := fx x1
   have g3 := fx x2
   clear fx b9 y1 x0 x1 x2
   refine Ab3 (n := 14) (S := fun w' => w'.cell? ⟨G, 1, none⟩ = some (.slice Aj (j) cj) ∧ w'.cell? (ad.add (j * 3)) = some (.int .i64 x.f0) ∧ w'.cell? (⟨(ad.add (j * 3)).block, (ad.add (j * 3)).off + 1, none⟩) = some (.bool x.f1) ∧ w'.cell? (⟨(ad.add (j * 3)).block, (ad.add (j * 3)).off + 2, none⟩) = some (.int .i64 x.f2)) (ds := [10, 13]) (bm_ 14 0) (by kernel_rfl) rfl rfl ⟨(by rw [hw9]; exact g0), (by rw [hw9]; exact g1), (by rw [hw9]; exact g2), (by rw [hw9]; exact g3)⟩ (fun hHeld => ?_)
   rw [hw9] at hHeld ⊢
   clear hw9 g0 g1 g2 g3
   refine pz_ 0 23 14 1 ?_
   refine pz_ 1 24 14 3 ?_
   refine pz_ 2 25 14 7 ?_
   refine pz_ 3 26 14 15 ?_
   refine pz_ 5 28 14 47 ?_
   refine pz_ 6 29 14 111 ?_
   refine pz_ 7 30 14 239 ?_
   refine tz_ 4 27 14 255 hHeld ?_
   refine tz_ 8 31 14 511 hHeld ?_
   refine oz_ 9 32 14 1023 fun K hK => ?_
   refine vz_ ?_
   refine hK.out _ _ ⟨(((Below.refl _ _).alloc (Nat.le_refl _) (.cells #[.int .i64 x.f0, .bool x.f1, .int .i64 x.f2] 39)).cell (World.block_lt_of_cell? _ _ hHeld.1)).trans hHeld.1, (((Below.refl _ _).alloc (Nat.le_refl _) (.cells #[.int .i64 x.f0, .bool x.f1, .int .i64 x.f2] 39)).cell (World.block_lt_of_cell? _ _ hHeld.2.1)).trans hHeld.2.1, (((Below.refl _ _).alloc (Nat.le_refl _) (.cells #[.int .i64 x.f0, .bool x.f1, .int .i64 x.f2] 39)).cell (World.block_lt_of_cell? _ _ hHeld.2.2.1)).trans hHeld.2.2.1, (((Below.refl _ _).alloc (Nat.le_refl _) (.cells #[.int .i64 x.f0, .bool x.f1, .int .i64 x.f2] 39)).cell (World.block_lt_of_cell? _ _ hHeld.2.2.2)).trans hHeld.2.2.2⟩ (fun hHeld => ?_)
   clear hK K
   refine nz_ ?_
   refine lz_ 10 33 14 2047 fun K hK => ?_
   refine Kd.Ab9 k39 (w0 := w2) w2.heap.size (by rfl) (.tmp 27) (.tmp 32) 27 39 (.agg #[.int .i64 0, .bool false, .int .i64 0]) 24 rfl Tryz.underlying27 Am5 rfl (by decide) (by decide) (.slice Aj (j) cj) (loc.take (j)) x [.int .i64 x.f0, .bool x.f1, .int .i64 x.f2] (fun _ => True) (fun _ => False) rfl rfl (Ai2 _ _ _ x) (fun _ hk => hk.elim) (fun _ _ => trivial) N9.out.loc N9.out.bel N9.out.bel.size (by rw [HLEN.out]; have := HLT2.out; omega) ?_
   intro v1 w10 hr1 hb1 hg1 _
   have NA := zA (N9.out.putl hr1 hb1 hg1)
   have BX10 := zA ((hg1.block _ (Ac0 N9.out.box) (Kd.R_ne N9.out.loc N9.out.box (by decide))).trans N9.out.box)
   obtain ⟨A1_, c1_, ev1⟩ := Kd.Aa9 hr1
   rw [List.length_append, List.length_singleton, HLEN.out] at ev1
   subst ev1
   clear hr1 hb1 hg1
   rw [← HG.out] at NA BX10
   refine hK.out _ _ ?_
   clear hK K
   refine nz_ ?_
   refine pz_ 11 34 14 4095 ?_
   refine pz_ 12 35 14 8191 ?_
   refine Ag8 (i := 13) (N := none) (bm_ 14 16383) rfl rfl (by kernel_rfl) (by decide) (fun K hK => ?_)
   have hs_ := bc_ BX10.out 1
   have hfs_ := Aa1 BX10.out 1
   refine sz_ ?_
   refine hK.out _ _ ?_
   clear hK K
   refine dz_ ?_

   obtain ⟨w11, hw11⟩ : ∃ w11, w11 = w10.setCell ⟨G, 1, none⟩ (.slice A1_ (j + 1) c1_) := ⟨_, rfl⟩
   rw [← hw11] at NA ⊢
   clear hw11 BX10
   obtain ⟨As, cs, evs⟩ := Kd.Aa9 NA.out.set
   have hlen2 : ((Ae2 n1 loc).take (j)).length = j := by rw [List.length_take, Ad7]; have := HDL.out; have := HLT.out; omega
   rw [hlen2] at evs
   subst evs
   have HLEN2 := zA hlen2
   have BX2 := NA.out.box
   rw [← HG.out] at BX2
   have y2 := bc_ BX2 2
   have BX2 := zA BX2
   clear hlen2
   go_wp2_with (at_builtin; refine Kd.Af9 Kd.bool (w0 := w2) w2.heap.size rfl (.tmp 40) (.tmp 41) 28 4 (.bool false) 1 rfl Tryz.underlying28 Cd0 rfl (by decide) (by decide) (.slice As (j) cs) ((Ae2 n1 loc).take (j)) (true) [.bool (true)] (fun _ => True) (fun _ => False) rfl rfl rfl (fun _ hk => hk.elim) (fun _ _ => trivial) NA.out.set NA.out.bel NA.out.bel.size (by rw [HLEN2.out]; have := HLT2.out; omega) ?_; intro v1 w12 hr1 hb1 hg1 _; have NB := zA (NA.out.puts hr1 hb1 hg1); have BX12 := zA ((hg1.block _ (Ac0 NA.out.box) (Kd.R_ne NA.out.set NA.out.box (by decide))).trans NA.out.box); obtain ⟨A2_, c2_, ev1⟩ := Kd.Aa9 hr1; rw [List.length_append, List.length_singleton, HLEN2.out] at ev1; subst ev1; clear hr1 hb1 hg1; rw [← HG.out] at NB BX12; have hs_ : w12.cell? ⟨G, 2, none⟩ = some (.slice As j cs) := (Aa0 BX12.out 2).trans rfl; have hfs_ : w12.frozen? ⟨G, 2, none⟩ = false := Aa1 BX12.out 2)
   go_roundw
   case rel => exact ⟨j + 1, .slice A1_ (j + 1) c1_, .slice A2_ (j + 1) c2_, by go_num, HLT.out, by have h_ := NB.out; rw [List.take_add_one, HX.out, List.take_add_one, HSX.out]; exact h_⟩
   case measure => have := HLT.out; simp [intOf]; omega
  ·obtain rfl : j = n1 := by omega
   clear hlt hqw
   go_wp2_with fail
   go_loopw [11] (fun i W => ∃ (j2 : Nat) (vlo vs : Value), i = .int .i64 j2 ∧ j2 ≤ n2 ∧ QW w2 (.slice A n0 c) (.slice Ar n3 cr) vlo vs (loc.take (j + j2)) ((Ae2 j loc).take (j + j2)) W) (fun i _ => n2 - (intOf i).toNat)
   case atStart => exact ⟨0, _, _, rfl, Nat.zero_le _, N1.out⟩
   case round =>
    clear N1
    obtain ⟨j2, vlo, vs, rfl, hj2, hqw⟩ := hrel
    have N1 := zA hqw
    by_cases hlt : j2 < n2
    ·obtain ⟨x, hx⟩ : ∃ x, ls[j2]? = some x := ⟨_, List.getElem?_eq_getElem (by rw [← HN.out.2.1]; exact hlt)⟩
     have hxl : loc[j + j2]? = some x := by rw [HLOC.out, List.getElem?_append_right (by rw [← HN.out.1]; omega), ← HN.out.1, Nat.add_sub_cancel_left]; exact hx
     have HSX : Aa2 ((Ae2 j loc)[j + j2]? = some (defM x)) := ⟨(Bc2 j hxl).trans (by rw [decide_eq_false (by omega : ¬ (j + j2 < j)), Bool.false_or])⟩
     have HX := zA hxl
     have bw := B2.out.trans (hqw.bel.mono B2.out.size)
     obtain ⟨ad, eA, x0, x1, x2⟩ := Bg7 ((HH.out.2.2.1.below bw).reads.2.2) hx
     subst eA
     have HXL := zA hx
     obtain ⟨Aj, cj, ev⟩ := Kd.Aa9 hqw.loc
     have hlen : (loc.take (j + j2)).length = j + j2 := by rw [List.length_take]; have := HDL.out; omega
     rw [hlen] at ev
     subst ev
     have HLEN := zA hlen
     have HLT := zA hlt
     have HLT2 : Aa2 (j + j2 ≤ 4194304) := ⟨by omega⟩
     have hlt2 : (j2 : Int) < (n2 : Int) := by omega
     have hjj : j2 ≤ 1048576 := by omega
     have BX := hqw.box
     rw [← HG.out] at BX
     have y1 := bc_ BX 1
     clear hx hxl hqw hlen BX bw
     go_wp2_with fail
     obtain ⟨w9, hw9⟩ : ∃ w9, World.drew wr = w9 := ⟨_, rfl⟩
     have b9 : Below wr.heap.size wr w9 := by rw [← hw9]; exact (Below.refl _ _).drew
     have N9 := zA (N1.out.below b9)
     have fx : ∀ {p : Addr} {u : Value}, wr.cell? p = some u → w9.cell? p = some u := fun h_ => b9.kp h_
     have g0 := fx y1
     have g1 := fx x0
     have g2 := fx x1
     have g3 := fx x2
     clear fx b9 y1
     refine Ab3 (n := 14) (S := fun w' => w'.cell? ⟨G, 1, none⟩ = some (.slice Aj (j + j2) cj) ∧ w'.cell? (ad.add (j2 * 3)) = some (.int .i64 x.f0) ∧ w'.cell? (⟨(ad.add (j2 * 3)).block, (ad.add (j2 * 3)).off + 1, none⟩) = some (.bool x.f1) ∧ w'.cell? (⟨(ad.add (j2 * 3)).block, (ad.add (j2 * 3)).off + 2, none⟩) = some (.int .i64 x.f2)) (ds := [10, 13]) (bm_ 14 0) (by kernel_rfl) rfl rfl ⟨(by rw [hw9]; exact g0), (by rw [hw9]; exact g1), (by rw [hw9]; exact g2), (by rw [hw9]; exact g3)⟩ (fun hHeld => ?_)
     rw [hw9] at hHeld ⊢
     clear hw9 g0 g1 g2 g3
     refine pz_ 0 51 14 1 ?_
     refine pz_ 1 52 14 3 ?_
     refine pz_ 2 53 14 7 ?_
     refine pz_ 3 54 14 15 ?_
     refine pz_ 5 56 14 47 ?_
     refine pz_ 6 57 14 111 ?_
     refine pz_ 7 58 14 239 ?_
     refine tz_ 4 55 14 255 hHeld ?_
     refine tz_ 8 59 14 511 hHeld ?_
     refine oz_ 9 60 14 1023 fun K hK => ?_
     refine vz_ ?_
     refine hK.out _ _ ⟨(((Below.refl _ _).alloc (Nat.le_refl _) (.cells #[.int .i64 x.f0, .bool x.f1, .int .i64 x.f2] 39)).cell (World.block_lt_of_cell? _ _ hHeld.1)).trans hHeld.1, (((Below.refl _ _).alloc (Nat.le_refl _) (.cells #[.int .i64 x.f0, .bool x.f1, .int .i64 x.f2] 39)).cell (World.block_lt_of_cell? _ _ hHeld.2.1)).trans hHeld.2.1, (((Below.refl _ _).alloc (Nat.le_refl _) (.cells #[.int .i64 x.f0, .bool x.f1, .int .i64 x.f2] 39)).cell (World.block_lt_of_cell? _ _ hHeld.2.2.1)).trans hHeld.2.2.1, (((Below.refl _ _).alloc (Nat.le_refl _) (.cells #[.int .i64 x.f0, .bool x.f1, .int .i64 x.f2] 39)).cell (World.block_lt_of_cell? _ _ hHeld.2.2.2)).trans hHeld.2.2.2⟩ (fun hHeld => ?_)
     clear hK K
     refine nz_ ?_
     refine lz_ 10 61 14 2047 fun K hK => ?_
     refine Kd.Ab9 k39 (w0 := w2) w2.heap.size (by rfl) (.tmp 55) (.tmp 60) 27 39 (.agg #[.int .i64 0, .bool false, .int .i64 0]) 24 rfl Tryz.underlying27 Am5 rfl (by decide) (by decide) (.slice Aj (j + j2) cj) (loc.take (j + j2)) x [.int .i64 x.f0, .bool x.f1, .int .i64 x.f2] (fun _ => True) (fun _ => False) rfl rfl (Ai2 _ _ _ x) (fun _ hk => hk.elim) (fun _ _ => trivial) N9.out.loc N9.out.bel N9.out.bel.size (by rw [HLEN.out]; have := HLT2.out; omega) ?_
     intro v1 w10 hr1 hb1 hg1 _
     have NA := zA (N9.out.putl hr1 hb1 hg1)
     have BX10 := zA ((hg1.block _ (Ac0 N9.out.box) (Kd.R_ne N9.out.loc N9.out.box (by decide))).trans N9.out.box)
     obtain ⟨A1_, c1_, ev1⟩ := Kd.Aa9 hr1
     rw [List.length_append, List.length_singleton, HLEN.out] at ev1
     subst ev1
     clear hr1 hb1 hg1
     rw [← HG.out] at NA BX10
     refine hK.out _ _ ?_
     clear hK K
     refine nz_ ?_
     refine pz_ 11 62 14 4095 ?_
     refine pz_ 12 63 14 8191 ?_
     refine Ag8 (i := 13) (N := none) (bm_ 14 16383) rfl rfl (by kernel_rfl) (by decide) (fun K hK => ?_)
     have hs_ := bc_ BX10.out 1
     have hfs_ := Aa1 BX10.out 1
     refine sz_ ?_
     refine hK.out _ _ ?_
     clear hK K
     refine dz_ ?_

     obtain ⟨w11, hw11⟩ : ∃ w11, w11 = w10.setCell ⟨G, 1, none⟩ (.slice A1_ (j + j2 + 1) c1_) := ⟨_, rfl⟩
     rw [← hw11] at NA ⊢
     clear hw11 BX10
     obtain ⟨As, cs, evs⟩ := Kd.Aa9 NA.out.set
     have hlen2 : ((Ae2 j loc).take (j + j2)).length = j + j2 := by rw [List.length_take, Ad7]; have := HDL.out; have := HLT.out; omega
     rw [hlen2] at evs
     subst evs
     have HLEN2 := zA hlen2
     have BX2 := NA.out.box
     rw [← HG.out] at BX2
     have y2 := bc_ BX2 2
     have BX2 := zA BX2
     clear hlen2
     have bq : Below w.heap.size w w11 := B2.out.trans (NA.out.bel.mono B2.out.size)
     have hq := Bg7 ((HH.out.2.2.1.below bq).reads.2.2) HXL.out
     obtain ⟨ad_, eq_, u0, u1, u2⟩ := hq
     injection eq_ with eq_
     subst eq_
     clear bq
     go_wp2_with fail
     obtain ⟨w13, hw13⟩ : ∃ w13, World.drew w11 = w13 := ⟨_, rfl⟩
     have b13 : Below w11.heap.size w11 w13 := by rw [← hw13]; exact (Below.refl _ _).drew
     have N13 := zA (NA.out.below b13)
     have fx : ∀ {p : Addr} {u : Value}, w11.cell? p = some u → w13.cell? p = some u := fun h_ => b13.kp h_
     have g0 := fx y2
     have g1 := fx u0
     have g2 := fx u1
     have g3 := fx u2
     clear fx b13 y2 u0 u1 u2
     refine Ab3 (n := 15) (S := fun w' => w'.cell? ⟨G, 2, none⟩ = some (.slice As (j + j2) cs) ∧ w'.cell? (ad.add (j2 * 3)) = some (.int .i64 x.f0) ∧ w'.cell? (⟨(ad.add (j2 * 3)).block, (ad.add (j2 * 3)).off + 1, none⟩) = some (.bool x.f1) ∧ w'.cell? (⟨(ad.add (j2 * 3)).block, (ad.add (j2 * 3)).off + 2, none⟩) = some (.int .i64 x.f2)) (ds := [11, 14]) (bm_ 15 0) (by kernel_rfl) rfl rfl ⟨(by rw [hw13]; exact g0), (by rw [hw13]; exact g1), (by rw [hw13]; exact g2), (by rw [hw13]; exact g3)⟩ (fun hHeld => ?_)
     rw [hw13] at hHeld ⊢
     clear hw13 g0 g1 g2 g3
     refine pz_ 0 64 15 1 ?_
     refine pz_ 1 65 15 3 ?_
     refine pz_ 2 66 15 7 ?_
     refine pz_ 3 67 15 15 ?_
     refine pz_ 5 69 15 47 ?_
     refine pz_ 6 70 15 111 ?_
     refine pz_ 7 71 15 239 ?_
     refine tz_ 4 68 15 255 hHeld ?_
     refine tz_ 8 72 15 511 hHeld ?_
     refine oz_ 9 73 15 1023 fun K hK => ?_
     refine gz_ Tryz.func68 #[.agg #[.int .i64 x.f0, .bool x.f1, .int .i64 x.f2]] ?_
     with_reducible refine (Cb0 x w13).mono ?_
     rintro e w14 ⟨rfl, hb_⟩
     have N14 := zA (N13.out.below hb_)
     have BH := zA hb_
     clear hb_
     refine ⟨_, rfl, ?_⟩
     refine hK.out _ _ ⟨BH.out.kp hHeld.1, BH.out.kp hHeld.2.1, BH.out.kp hHeld.2.2.1, BH.out.kp hHeld.2.2.2⟩ (fun hHeld => ?_)
     clear hK K
     refine nz_ ?_
     refine oz_ 10 74 15 2047 fun K hK => ?_
     refine vz_ ?_
     refine hK.out _ _ ⟨(((Below.refl _ _).alloc (Nat.le_refl _) (.cells #[.bool (defM x)] 4)).cell (World.block_lt_of_cell? _ _ hHeld.1)).trans hHeld.1, (((Below.refl _ _).alloc (Nat.le_refl _) (.cells #[.bool (defM x)] 4)).cell (World.block_lt_of_cell? _ _ hHeld.2.1)).trans hHeld.2.1, (((Below.refl _ _).alloc (Nat.le_refl _) (.cells #[.bool (defM x)] 4)).cell (World.block_lt_of_cell? _ _ hHeld.2.2.1)).trans hHeld.2.2.1, (((Below.refl _ _).alloc (Nat.le_refl _) (.cells #[.bool (defM x)] 4)).cell (World.block_lt_of_cell? _ _ hHeld.2.2.2)).trans hHeld.2.2.2⟩ (fun hHeld => ?_)
     clear hK K
     refine nz_ ?_
     refine lz_ 11 75 15 4095 fun K hK => ?_
     refine Kd.Ab9 Kd.bool (w0 := w2) w2.heap.size (by rfl) (.tmp 68) (.tmp 74) 28 4 (.bool false) 1 rfl Tryz.underlying28 Cd0 rfl (by decide) (by decide) (.slice As (j + j2) cs) ((Ae2 j loc).take (j + j2)) (defM x) [.bool (defM x)] (fun _ => True) (fun _ => False) rfl rfl rfl (fun _ hk => hk.elim) (fun _ _ => trivial) N14.out.set N14.out.bel N14.out.bel.size (by rw [HLEN2.out]; have := HLT2.out; omega) ?_
     intro v1 w12 hr1 hb1 hg1 _
     have NB := zA (N14.out.puts hr1 hb1 hg1)
     have BX12 := zA ((hg1.block _ (Ac0 N14.out.box) (Kd.R_ne N14.out.set N14.out.box (by decide))).trans N14.out.box)
     obtain ⟨A2_, c2_, ev1⟩ := Kd.Aa9 hr1
     rw [List.length_append, List.length_singleton, HLEN2.out] at ev1
     subst ev1
     clear hr1 hb1 hg1
     rw [← HG.out] at NB BX12
     refine hK.out _ _ ?_
     clear hK K
     refine nz_ ?_
     refine pz_ 12 76 15 8191 ?_
     refine pz_ 13 77 15 16383 ?_
     refine Ag8 (i := 14) (N := none) (bm_ 15 32767) rfl rfl (by kernel_rfl) (by decide) (fun K hK => ?_)
     have hs_ := bc_ BX12.out 2
     have hfs_ := Aa1 BX12.out 2
     refine sz_ ?_
     refine hK.out _ _ ?_
     clear hK K
     refine dz_ ?_

     go_wp2_with fail
     go_roundw
     case rel => exact ⟨j2 + 1, .slice A1_ (j + j2 + 1) c1_, .slice A2_ (j + j2 + 1) c2_, by go_num, HLT.out, by have h_ := NB.out; rw [← Nat.add_assoc, List.take_add_one, HX.out, List.take_add_one, HSX.out]; exact h_⟩
     case measure => have := HLT.out; simp [intOf]; omega
    ·obtain rfl : j2 = n2 := by omega
     clear hlt
     have hf1 : loc.take (j + j2) = loc := List.take_of_length_le (by have := HDL.out; omega)
     have hf2 : (Ae2 j loc).take (j + j2) = Ae2 j loc := List.take_of_length_le (by rw [Ad7]; have := HDL.out; omega)
     rw [hf1, hf2] at hqw
     have bw := B2.out.trans (hqw.bel.mono B2.out.size)
     have hrv := hqw.done (w2' := w2) (l := l) (res := rs) (by rw [HN.out.2.2.2]; exact HH.out.1.below B2.out) KR.out (fun y e => Nat.lt_of_lt_of_le (HD.out y e) B2.out.size) B HB.out.1 (Nat.le_trans HB.out.2.1 B2.out.size) (HB.out.2.2.on ⟨B2.out.os, B2.out.tape, B2.out.output, B2.out.size, fun k hk => B2.out.block k (by have := HB.out.2.1; omega)⟩)
     rw [← HG.out] at hrv
     have b7 : Below wr.heap.size wr wr.drew := (Below.refl _ _).drew
     have H7 := zA (hrv.below b7)
     have BW := zA (bw.trans (b7.mono bw.size))
     have LR7 := zA ((HH.out.2.2.2.below bw).below b7)
     have HGW : Aa2 (w.heap.size ≤ G) := ⟨by rw [HG.out]; exact B2.out.size⟩
     clear hf1 hf2 hrv hqw b7 bw N1
     go_wp2_with fail
     obtain ⟨w7, hw7⟩ : ∃ w7, World.drew wr = w7 := ⟨_, rfl⟩
     rw [hw7] at H7 BW LR7
     have z2 : w7.cell? ⟨G, 2, none⟩ = some vs := H7.out.c2
     refine Ab3 (n := 13) (S := fun w' => w'.cell? ⟨G, 2, none⟩ = some vs) (ds := [12]) (bm_ 13 0) (by kernel_rfl) rfl rfl ((by rw [hw7]; exact z2)) (fun hHeld => ?_)
     rw [hw7] at hHeld ⊢
     clear hw7 z2
     refine pz_ 0 78 13 1 ?_
     refine pz_ 1 79 13 3 ?_
     refine pz_ 3 81 13 11 ?_
     refine pz_ 4 82 13 27 ?_
     refine pz_ 5 83 13 59 ?_
     refine tz_ 6 84 13 123 hHeld ?_
     refine oz_ 2 80 13 127 fun K hK => ?_
     have K12 := Af2 D (fun y => D y ∨ y = G) rs w7 LR7.out (by have := HL.out.2.2; omega) H7.out.lt
     rw [← HN.out.2.2.1] at K12
     refine gz_ Tryz.func67 #[.slice A3 n3 c3] ?_
     with_reducible refine (K12).mono ?_
     rintro e w8 ⟨va, rfl, hla, hb⟩
     obtain ⟨Aa, ca, rfl⟩ := hla.slice
     have LA8 := zA hla
     have H8 := zA (H7.out.below hb)
     have B8 := zA hb
     clear hla hb
     refine ⟨_, rfl, ?_⟩
     refine hK.out _ _ (H8.out.c2) (fun hHeld => ?_)
     clear hK K
     refine nz_ ?_
     refine oz_ 7 85 13 255 fun K hK => ?_
     refine gz_ Tryz.func69 #[vs] ?_
     with_reducible refine (Ap4 (fun y => D y ∨ y = G) (fun y => D y ∨ y = G) (Ae2 j loc) w8 H8.out.set (by rw [Ad7]; have := HDL.out; omega) H8.out.lt).mono ?_
     rintro e w9 ⟨vc, rfl, hlc, hb⟩
     obtain ⟨Ac, cc, rfl⟩ := hlc.slice
     have LC9 := zA hlc
     have LA9 := zA (LA8.out.below hb)
     have H9 := zA (H8.out.below hb)
     have BB9 := zA (B8.out.trans (hb.mono B8.out.size))
     clear hlc hb
     refine ⟨_, rfl, ?_⟩
     refine hK.out _ _ (H9.out.c2) (fun hHeld => ?_)
     clear hK K
     refine nz_ ?_
     refine pz_ 8 86 13 511 ?_
     refine oz_ 9 87 13 1023 fun K hK => ?_
     refine vz_ ?_
     refine hK.out _ _ ((H9.out.below ((Below.refl _ _).alloc (Nat.le_refl _) (.cells #[.int .i64 2, .slice none 0 0, .slice Aa rs.length ca, .int .i64 0, .slice Ac (Ae2 j loc).length cc, .bool false] 139))).c2) (fun hHeld => ?_)
     clear hK K
     refine nz_ ?_
     refine pz_ 10 88 13 2047 ?_
     refine pz_ 11 89 13 4095 ?_
     refine Ag8 (i := 12) (N := none) (bm_ 13 8191) rfl rfl (by kernel_rfl) (by decide) (fun K hK => ?_)
     have H10 := zA (H9.out.below ((Below.refl _ _).alloc (Nat.le_refl _) (.cells #[.int .i64 2, .slice none 0 0, .slice Aa rs.length ca, .int .i64 0, .slice Ac (Ae2 j loc).length cc, .bool false] 139)))
     have hs_ : (w9.alloc (.cells #[.int .i64 2, .slice none 0 0, .slice Aa rs.length ca, .int .i64 0, .slice Ac (Ae2 j loc).length cc, .bool false] 139)).cell? ⟨G, 4, none⟩ = some (.slice none 0 0) := H10.out.c4
     have hfs_ := Aa1 H10.out.box 4
     refine sz_ ?_
     refine hK.out _ _ ?_
     clear hK K
     refine dz_ ?_

     go_wp2_with fail
     go_ret
     have FK10 : Kd.FK k139 (w9.alloc (.cells #[.int .i64 2, .slice none 0 0, .slice Aa rs.length ca, .int .i64 0, .slice Ac (Ae2 j loc).length cc, .bool false] 139)) (fun y => ¬ (D y ∨ y = G)) (Fr.q ⟨2, [], rs, 0, Ae2 j loc, false⟩) [.int .i64 2, .slice none 0 0, .slice Aa rs.length ca, .int .i64 0, .slice Ac (Ae2 j loc).length cc, .bool false] := Kd.An5 (Bl9 w9 _ (Fr.q ⟨2, [], rs, 0, Ae2 j loc, false⟩) (LK.nil k39 (fun y => D y ∨ y = G) w9).reads.2.1 (LK.nil k39 (fun y => D y ∨ y = G) w9).F LA9.out.reads.2.1 LA9.out.F LC9.out.reads.2.1 LC9.out.F) ((Below.refl _ _).alloc (Nat.le_refl _) (.cells #[.int .i64 2, .slice none 0 0, .slice Aa rs.length ca, .int .i64 0, .slice Ac (Ae2 j loc).length cc, .bool false] 139))
     have h_ := H10.out.frames (lk_qlit w9 ⟨2, [], rs, 0, Ae2 j loc, false⟩ [.int .i64 2, .slice none 0 0, .slice Aa rs.length ca, .int .i64 0, .slice Ac (Ae2 j loc).length cc, .bool false] rfl (by simp [Value.oneCell']) FK10 H9.out.lt)
     exact ⟨G, rfl, HGW.out, ⟨_, _, _, _, _, _, h_⟩, ((BW.out.trans (BB9.out.mono BW.out.size)).trans (((Below.refl _ _).alloc (Nat.le_refl _) (.cells #[.int .i64 2, .slice none 0 0, .slice Aa rs.length ca, .int .i64 0, .slice Ac (Ae2 j loc).length cc, .bool false] 139)).mono (Nat.le_trans BW.out.size BB9.out.size))).setCell (p := ⟨G, 4, none⟩) HGW.out _⟩
def NV64 (i : Int) : Prop := -9223372036854775808 ≤ i ∧ i ≤ 9223372036854775807
def vS (s : S123) : Nat := s.f1.length + s.f2.f1.length + s.f2.f2.length + s.f2.f3.length + 1
def vG (l : List S123) : Nat := (l.map vS).sum
def vL (l : List S132) : Nat := (l.map fun r => vG r.f0 + 1).sum
theorem Ap0 {α : Type} (f : α → Nat) : ∀ (l : List α) (x : α), x ∈ l → f x ≤ (l.map f).sum
 | y :: l, x, h => by
  rcases List.mem_cons.1 h with rfl | h
  ·simp
  ·have := Ap0 f l x h
   simp only [List.map_cons, List.sum_cons]; omega
theorem Bx8 {α : Type} (f : α → Nat) (hf : ∀ x, 1 ≤ f x) : ∀ l : List α, l.length ≤ (l.map f).sum
 | [] => by simp
 | y :: l => by
  have := Bx8 f hf l
  have := hf y
  simp only [List.map_cons, List.sum_cons, List.length_cons]; omega
theorem vS_pos (s : S123) : 1 ≤ vS s := by unfold vS; omega
def Af1 (l : List S132) : Nat := (l.map fun r => r.f0.length).sum
theorem Av1 (l : List S132) : Af1 l + l.length ≤ vL l := by
 unfold Af1 vL
 induction l with
 | nil => simp
 | cons r l ih =>
  have h := Bx8 vS vS_pos r.f0
  unfold vG
  simp only [List.map_cons, List.sum_cons, List.length_cons]
  unfold vG at ih
  omega
def atV : List S132 → Int → Option S123
 | [], _ => none
 | r :: l, n => if n < (r.f0.length : Int) then r.f0[n.toNat]? else atV l (n - r.f0.length)
def atN (l : List S132) (n : Int) : Option S123 := if n < 0 then none else atV l n
theorem Av3 (l : List S132) (j : Nat) (h : j < l.length) : l[j]? = some (Ad5 l (j : Int)) := by simp [Ad5, List.getD_eq_getElem?_getD, List.getElem?_eq_getElem h]
theorem Bm6 {α : Type} {l : List α} {j : Nat} {x : α} (h : l[j]? = some x) : l.drop j = x :: l.drop (j + 1) := by
 obtain ⟨hj, he⟩ := List.getElem?_eq_some_iff.1 h
 rw [← he, List.drop_eq_getElem_cons hj]
theorem Au1 {W W' : World} (hg : W.grownBy W' none) : Below W.heap.size W W' := ⟨hg.os, hg.tape, hg.output, hg.size, fun k hk => hg.block k hk (by simp)⟩
theorem Ca7 (h : Int) (w : World) : Calls Tryz.prog 109 (#[.int .i64 h] ++ #[]) w fun e w' => e = .returned (.int .i64 h) ∧ Below w.heap.size w w' := by
 go_enter Tryz.func109, Tryz.ntmps109
 go_wp2_with fail
 go_ret
 exact ⟨rfl, Below.refl _ _⟩
theorem idCb (wm : World) : Cb wm.heap.size none (fun _ => True) (fun (_ : Unit) w => Below wm.heap.size wm w) (fun s h => (s, h)) (.func (.func 109) #[] #[]) :=
 Cb.pure (f := fun h => h) (fun args w => Am6 Tryz.func109 (by kernel_rfl) rfl args w) (fun h w _ _ => Ca7 h w)
theorem Bb2 {α : Type} (g : Unit → α → Unit × α) (hg : ∀ s x, (g s x).2 = x) : ∀ (s : Unit) (l : List α), (Aa4 g s l).2 = l
 | s, [] => rfl
 | s, x :: l => by simp only [Aa4, hg, Bb2 g hg]
theorem Ag0 {P : Program} {fn : Func} {p u v x : Tmp} {ty : TypeId} (h : fn.results = #[.cell p ty, .tmp u, .tmp v, .tmp x]) (tmps : Array Value) (w : World) (g : Nat) (cs : Array Value)
  (hp : tmps.getD p undef = .pointer (some ⟨g, 0, none⟩)) (hl : (loadVar ty ⟨g, 0, none⟩).run P w = .ok (.agg cs) w) :
  (results fn tmps).run P w = .ok (.tuple #[.agg cs, tmps.getD u undef, tmps.getD v undef, tmps.getD x undef]) w := by
 have hp' : tmps[p]?.getD undef = .pointer (some ⟨g, 0, none⟩) := by simpa using hp
 simp [results, h, hp', asAddr, hl, Sem.run_bind, Result.andThen]
theorem Ah7 : ∀ q, q ∈ (39 : Nat) :: (k39).E → q ≠ 123 := by decide
def VR (w : World) (v : Value) (xs : List S39) : Prop := ∃ A c, v = .slice A xs.length c ∧ xs.length ≤ c ∧ Kd.C k39 w A xs.length xs
def VQ (b : Nat) (w : World) (v : Value) (xs : List S39) : Prop := ∃ A c, v = .slice A xs.length c ∧ xs.length ≤ c ∧ (Kd.C k39 w A xs.length xs ∧ ∀ S : Nat → Prop, (∀ x, S x → x < b) → Kd.V k39 0 w 0 (fun k => ¬ S k) v xs)
theorem VQ.of_R {e b : Nat} {ok : Nat → Prop} {w : World} {v : Value} {xs : List S39} (h : Kd.R k39 e w b ok v xs) : VQ b w v xs := by
 obtain ⟨A, c, h1, h2, h3⟩ := Kd.Ae4 h
 refine ⟨A, c, h1, h2, h3, fun S hS => ?_⟩
 have h1 := Kd.R_V (base' := 0) (Kd.Af6 h)
 have h2 := h1
 exact Kd.Az3 h2 (fun k hk e => by have := hk.2.1; have := hS k e; omega)
theorem VQ.vr {b : Nat} {w : World} {v : Value} {xs : List S39} (h : VQ b w v xs) : VR w v xs := by
 obtain ⟨A, c, h1, h2, h3, _⟩ := h
 exact ⟨A, c, h1, h2, h3⟩
theorem VQ.nil (b : Nat) (w : World) : VQ b w (.slice none 0 0) [] := ⟨none, 0, rfl, Nat.le_refl _, Kd.Az9 _ _, fun S _ => Kd.V_nil _ 0 w 0 _⟩
theorem VQ.below {b : Nat} {w w' : World} {v : Value} {xs : List S39} (h : VQ b w v xs) (hb : Below w.heap.size w w') : VQ b w' v xs := by
 obtain ⟨A, c, h1, h2, h3, h4⟩ := h
 exact ⟨A, c, h1, h2, Kd.Ab1 h3 hb, fun S hS => Kd.Bx1 (h4 S hS) hb⟩
theorem VQ.down {b b' : Nat} {w : World} {v : Value} {xs : List S39} (h : VQ b w v xs) (hb : b' ≤ b) : VQ b' w v xs := by
 obtain ⟨A, c, h1, h2, h3, h4⟩ := h
 exact ⟨A, c, h1, h2, h3, fun S hS => h4 S (fun x e => Nat.lt_of_lt_of_le (hS x e) hb)⟩
def TAtOut (s? : Option S123) (w : World) (e : Ending) (w' : World) : Prop :=
 match s? with
 | some s => ∃ (E1 : Option Addr) (n1 m1 : Nat) (v2 v3 : Value) (E4 : Option Addr) (n4 m4 : Nat) (i p : Int), e = .returned (.tuple #[.agg #[.bool s.f0, .slice E1 n1 m1, .int .i64 s.f2.f0, v2, v3, .slice E4 n4 m4], .int .i64 i, .int .i64 p, .int .i64 0]) ∧ VQ w.heap.size w' v2 s.f2.f1 ∧ VQ w.heap.size w' v3 s.f2.f2 ∧ Below w.heap.size w w'
 | none => e = .returned (.tuple #[.agg #[.bool false, .slice none 0 0, .int .i64 0, .slice none 0 0, .slice none 0 0, .slice none 0 0], .int .i64 0, .int .i64 0, .int .i64 50]) ∧ Below w.heap.size w w'
set_option maxHeartbeats 8000000 in
theorem Cf2 (A : Option Addr) (c : Nat) (l : List S132) (n : Int) (w : World) (hC : Kd.C k132 w A l.length l) (hb : vL l ≤ 1048576) (hn : NV64 n) :
  Calls Tryz.prog 58 #[.slice A l.length c, .int .i64 n] w (TAtOut (atN l n) w) := by
 have HC := zA hC
 have hcnt := Av1 l
 have HBK := zA hb
 have HN := zA hn
 have hll : l.length ≤ 1048576 := by omega
 have b0 : Below w.heap.size w (w.alloc (.cells #[.bool false, .slice none 0 0, .int .i64 0, .slice none 0 0, .slice none 0 0, .slice none 0 0] 123)) := bz_
 have Q0 := zA (And.intro b0 (Aa6 w (.cells #[.bool false, .slice none 0 0, .int .i64 0, .slice none 0 0, .slice none 0 0, .slice none 0 0] 123)))
 clear hC hcnt hb hn b0
 go_enter Tryz.func58, Tryz.ntmps58
 by_cases hneg : n < 0
 ·have EN : Aa2 (atN l n = none) := ⟨by simp [atN, hneg]⟩
  rw [EN.out]
  go_wp2_with fail
  refine bodyPost_ret (Ag0 rfl _ _ w.heap.size #[.bool false, .slice none 0 0, .int .i64 0, .slice none 0 0, .slice none 0 0, .slice none 0 0] rfl (run_loadVar_row _ _ 123 123 _ (0, 0) _ (Aa6 w _) Tryz.underlying123 rfl (by kernel_rfl))) rfl ?_
  exact ⟨rfl, bz_⟩
 have n0 : 0 ≤ n := by omega
 have N0 := zA n0
 have EA : Aa2 (atN l n = atV l n) := ⟨by simp [atN, hneg]⟩
 clear hneg
 go_wp2_with fail
 clear n0
 go_loopw [14, 1] (fun i v W => ∃ (j : Nat) (x : Int), i = .int .i64 j ∧ j ≤ l.length ∧ v = .int .i64 x ∧ 0 ≤ x ∧ x ≤ n ∧ atV (l.drop j) x = atV l n ∧ Below w.heap.size w W ∧ W.heap[w.heap.size]? = some (.cells #[.bool false, .slice none 0 0, .int .i64 0, .slice none 0 0, .slice none 0 0, .slice none 0 0] 123 (0, 0))) (fun i _ _ => l.length - (intOf i).toNat)
 case atStart => exact ⟨0, n, rfl, Nat.zero_le _, rfl, N0.out, Int.le_refl _, rfl, Q0.out.1, Q0.out.2⟩
 case round =>
  clear Q0
  obtain ⟨j, x, rfl, hj, rfl, x0, xn, hx, hbw, hbx⟩ := hrel
  have HX := zA hx
  have BW := zA hbw
  have BX := zA hbx
  have XN := zA xn
  clear hx hbw hbx xn
  have j0 : (0 : Int) ≤ (j : Int) := Int.natCast_nonneg j
  by_cases hlj : j < l.length
  ·obtain ⟨ad, Ar, cr, ea, d0, d1, hrc, hrC⟩ := Aq1 HC.out (j : Int) j0 (by omega)
   subst ea
   have HRJ := zA (Av3 l j hlj)
   simp only [Int.toNat_natCast] at d0 d1
   obtain ⟨r, hre⟩ : ∃ r, r = Ad5 l (j : Int) := ⟨_, rfl⟩
   rw [← hre] at d0 d1 hrc hrC HRJ
   clear hre
   have HRC := zA hrC
   replace d0 := BW.out.kp d0
   replace d1 := BW.out.kp d1
   have jl : (j : Int) < (l.length : Int) := by omega
   obtain ⟨W2, hW2⟩ : ∃ W2, W2 = wr.alloc (.cells #[.slice Ar r.f0.length cr, .bool r.f1] 132) := ⟨_, rfl⟩
   have B2 : Aa2 (Below w.heap.size w W2) := ⟨by rw [hW2]; exact BW.out.alloc BW.out.size _⟩
   have X2 : Aa2 (W2.heap[w.heap.size]? = some (.cells #[.bool false, .slice none 0 0, .int .i64 0, .slice none 0 0, .slice none 0 0, .slice none 0 0] 123 (0, 0))) := ⟨by rw [hW2]; exact Aa5 BX.out _⟩
   clear hrC hrc
   by_cases hxr : x < (r.f0.length : Int)
   ·obtain ⟨ae, A1, c1, A3, c3, A4, c4, A5, c5, eb, e0, e1, e2, e3, e4, e5, m1, r1, m3, r3, m4, r4, m5, r5⟩ := An8 HRC.out x x0 hxr
    subst eb
    obtain ⟨s, hs⟩ : ∃ s, s = Ac2 r.f0 x := ⟨_, rfl⟩
    rw [← hs] at e0 e1 e2 e3 e4 e5 m1 r1 m3 r3 m4 r4 m5 r5
    have hsg : r.f0[x.toNat]? = some s := by
     rw [hs]; unfold Ac2
     rw [List.getD_eq_getElem?_getD, List.getElem?_eq_getElem (by omega)]; rfl
    have EV : Aa2 (atN l n = some s) := ⟨by rw [EA.out, ← HX.out, Bm6 HRJ.out]; unfold atV; rw [if_pos hxr, hsg]⟩
    have hsw : vS s ≤ 1048576 := by
     have h1 := Ap0 vS r.f0 s (List.mem_of_getElem? hsg)
     have h2 := Ap0 (fun r => vG r.f0 + 1) l r (List.mem_of_getElem? HRJ.out)
     have h3 := HBK.out
     unfold vL at h3
     unfold vG at h2 h3
     omega
    unfold vS at hsw
    have SW : Aa2 (s.f1.length ≤ 1048576 ∧ s.f2.f1.length ≤ 1048576 ∧ s.f2.f2.length ≤ 1048576 ∧ s.f2.f3.length ≤ 1048576) := ⟨⟨by omega, by omega, by omega, by omega⟩⟩
    have RR := zA (And.intro r1 (And.intro r3 (And.intro r4 r5)))
    rw [EV.out]
    replace e0 := BW.out.kp e0
    replace e1 := BW.out.kp e1
    replace e2 := BW.out.kp e2
    replace e3 := BW.out.kp e3
    replace e4 := BW.out.kp e4
    replace e5 := BW.out.kp e5
    have hae : (ae.add (x.toNat * 6)).block < wr.heap.size := World.block_lt_of_cell? wr _ e0
    clear m1 r1 m3 r3 m4 r4 m5 r5 hs hsg hsw
    go_wp2_with fail
    rw [← hW2]
    have KT := Ay2 (idCb W2) w () s.f0 s.f2.f0 A1 c1 s.f1 A3 c3 s.f2.f1 A4 c4 s.f2.f2 A5 c5 s.f2.f3 W2 (Nat.le_refl _) B2.out (fun k e => by cases e) (Below.refl _ _) RR.out.1 RR.out.2.1 RR.out.2.2.1 RR.out.2.2.2 (fun _ _ => trivial) (fun _ _ _ => trivial) (fun _ _ _ => trivial) (fun _ _ _ => trivial) (by have := SW.out; omega) (by have := SW.out; omega) (by have := SW.out; omega) (by have := SW.out; omega)
    have i1 : (Aa4 (fun (s : Unit) h => (s, h)) () s.f1).2 = s.f1 := Bb2 _ (fun _ _ => rfl) _ _
    have iv : ∀ (s : Unit) (x : S39), (tval (fun (s : Unit) h => (s, h)) s x).2 = x := fun s x => by unfold tval; split <;> rfl
    rw [Bb2 _ iv, Bb2 _ iv] at KT
    clear i1 iv hW2 d0 d1 e0 e1 e2 e3 e4 e5 hae
    refine KT.mono ?_
    rintro e w3 ⟨v1, v2, v3, v4, rfl, R1, R2, R3, R4, _, hg⟩
    have B3 := zA (B2.out.trans ((Au1 hg).mono B2.out.size))
    have hx3 := (Au1 hg).block w.heap.size (Ac0 X2.out)
    have X3 := zA (hx3.trans X2.out)
    obtain ⟨B1_, b1_, eq1⟩ := Kd.Aa9 R1
    obtain ⟨B2_, b2_, eq2⟩ := Kd.Aa9 R2
    obtain ⟨B3_, b3_, eq3⟩ := Kd.Aa9 R3
    obtain ⟨B4_, b4_, eq4⟩ := Kd.Aa9 R4
    subst eq1 eq2 eq3 eq4
    obtain ⟨q4, hq4⟩ : ∃ q4, q4 = (Aa4 (Ah3 fun (s : Unit) h => (s, h)) (Aa4 (tval fun (s : Unit) h => (s, h)) (Aa4 (tval fun (s : Unit) h => (s, h)) (Aa4 (fun (s : Unit) h => (s, h)) () s.f1).1 s.f2.f1).1 s.f2.f2).1 s.f2.f3).2.length := ⟨_, rfl⟩
    rw [← hq4]
    clear hq4
    have RV := zA (And.intro R2 R3)
    clear R1 R2 R3 R4 hg hx3 KT
    have z0 := bc_ X3.out 0
    have f0 := Aa1 X3.out 0
    have z1 := bc_ X3.out 1
    have f1 := Aa1 X3.out 1
    have z2 := bc_ X3.out 2
    have f2 := Aa1 X3.out 2
    have z3 := bc_ X3.out 3
    have f3 := Aa1 X3.out 3
    have z4 := bc_ X3.out 4
    have f4 := Aa1 X3.out 4
    have z5 := bc_ X3.out 5
    have f5 := Aa1 X3.out 5
    go_wp2_with fail
    have h0 := X3.out
    have h1 := Aa7 h0 0 (.bool s.f0)
    have h2 := Aa7 h1 1 (.slice B1_ (Aa4 (fun (s : Unit) h => (s, h)) () s.f1).2.length b1_)
    have h3 := Aa7 h2 2 (.int .i64 s.f2.f0)
    have h4 := Aa7 h3 3 (.slice B2_ s.f2.f1.length b2_)
    have h5 := Aa7 h4 4 (.slice B3_ s.f2.f2.length b3_)
    have h6 := Aa7 h5 5 (.slice B4_ q4 b4_)
    have p0 := RV.out.1
    have y0 := RV.out.2
    have p1 := Kd.Ac3 p0 h0 Ah7 0 (.bool s.f0)
    have y1 := Kd.Ac3 y0 h0 Ah7 0 (.bool s.f0)
    have p2 := Kd.Ac3 p1 h1 Ah7 1 (.slice B1_ (Aa4 (fun (s : Unit) h => (s, h)) () s.f1).2.length b1_)
    have y2 := Kd.Ac3 y1 h1 Ah7 1 (.slice B1_ (Aa4 (fun (s : Unit) h => (s, h)) () s.f1).2.length b1_)
    have p3 := Kd.Ac3 p2 h2 Ah7 2 (.int .i64 s.f2.f0)
    have y3 := Kd.Ac3 y2 h2 Ah7 2 (.int .i64 s.f2.f0)
    have p4 := Kd.Ac3 p3 h3 Ah7 3 (.slice B2_ s.f2.f1.length b2_)
    have y4 := Kd.Ac3 y3 h3 Ah7 3 (.slice B2_ s.f2.f1.length b2_)
    have p5 := Kd.Ac3 p4 h4 Ah7 4 (.slice B3_ s.f2.f2.length b3_)
    have y5 := Kd.Ac3 y4 h4 Ah7 4 (.slice B3_ s.f2.f2.length b3_)
    have p6 := Kd.Ac3 p5 h5 Ah7 5 (.slice B4_ q4 b4_)
    have y6 := Kd.Ac3 y5 h5 Ah7 5 (.slice B4_ q4 b4_)
    refine bodyPost_ret (Ag0 rfl _ _ w.heap.size #[.bool s.f0, .slice B1_ (Aa4 (fun (s : Unit) h => (s, h)) () s.f1).2.length b1_, .int .i64 s.f2.f0, .slice B2_ s.f2.f1.length b2_, .slice B3_ s.f2.f2.length b3_, .slice B4_ q4 b4_] rfl (run_loadVar_row _ _ 123 123 _ (0, 0) _ h6 Tryz.underlying123 rfl (by kernel_rfl))) rfl ?_
    exact ⟨_, _, _, _, _, _, _, _, _, _, rfl, (VQ.of_R p6).down B2.out.size, (VQ.of_R y6).down B2.out.size, ((((((B3.out.setCell (p := ⟨w.heap.size, 0, none⟩) (Nat.le_refl _) (.bool s.f0)).setCell (p := ⟨w.heap.size, 1, none⟩) (Nat.le_refl _) (.slice B1_ (Aa4 (fun (s : Unit) h => (s, h)) () s.f1).2.length b1_)).setCell (p := ⟨w.heap.size, 2, none⟩) (Nat.le_refl _) (.int .i64 s.f2.f0)).setCell (p := ⟨w.heap.size, 3, none⟩) (Nat.le_refl _) (.slice B2_ s.f2.f1.length b2_)).setCell (p := ⟨w.heap.size, 4, none⟩) (Nat.le_refl _) (.slice B3_ s.f2.f2.length b3_)).setCell (p := ⟨w.heap.size, 5, none⟩) (Nat.le_refl _) (.slice B4_ q4 b4_))⟩
   ·have hwx : wrap64 (x - (r.f0.length : Int)) = x - r.f0.length := by
     have h1 := HN.out
     have h2 := XN.out
     unfold NV64 at h1
     unfold wrap64; omega
    go_wp2_with fail
    rw [← hW2]
    go_roundw
    case rel => exact ⟨j + 1, x - r.f0.length, by go_num, by omega, by rw [hwx], by omega, by have := XN.out; omega, by rw [← HX.out, Bm6 HRJ.out]; conv => rhs; unfold atV; rw [if_neg hxr], B2.out, X2.out⟩
    case measure => simp [intOf]; omega
  ·obtain rfl : j = l.length := by omega
   have EN : Aa2 (atN l n = none) := ⟨by rw [EA.out, ← HX.out, List.drop_length]; rfl⟩
   clear hj hlj
   have z0 := bc_ BX.out 0
   have f0 := Aa1 BX.out 0
   have z1 := bc_ BX.out 1
   have f1 := Aa1 BX.out 1
   have z2 := bc_ BX.out 2
   have f2 := Aa1 BX.out 2
   have z3 := bc_ BX.out 3
   have f3 := Aa1 BX.out 3
   have z4 := bc_ BX.out 4
   have f4 := Aa1 BX.out 4
   have z5 := bc_ BX.out 5
   have f5 := Aa1 BX.out 5
   go_wp2_with fail
   have h0 := BX.out
   have h1 := Aa7 h0 0 (.bool false)
   have h2 := Aa7 h1 1 (.slice none 0 0)
   have h3 := Aa7 h2 2 (.int .i64 0)
   have h4 := Aa7 h3 3 (.slice none 0 0)
   have h5 := Aa7 h4 4 (.slice none 0 0)
   have h6 := Aa7 h5 5 (.slice none 0 0)
   refine bodyPost_ret (Ag0 rfl _ _ w.heap.size #[.bool false, .slice none 0 0, .int .i64 0, .slice none 0 0, .slice none 0 0, .slice none 0 0] rfl (run_loadVar_row _ _ 123 123 _ (0, 0) _ h6 Tryz.underlying123 rfl (by kernel_rfl))) rfl ?_
   rw [EN.out]
   exact ⟨rfl, ((((((BW.out.setCell (p := ⟨w.heap.size, 0, none⟩) (Nat.le_refl _) (.bool false)).setCell (p := ⟨w.heap.size, 1, none⟩) (Nat.le_refl _) (.slice none 0 0)).setCell (p := ⟨w.heap.size, 2, none⟩) (Nat.le_refl _) (.int .i64 0)).setCell (p := ⟨w.heap.size, 3, none⟩) (Nat.le_refl _) (.slice none 0 0)).setCell (p := ⟨w.heap.size, 4, none⟩) (Nat.le_refl _) (.slice none 0 0)).setCell (p := ⟨w.heap.size, 5, none⟩) (Nat.le_refl _) (.slice none 0 0))⟩
end Go.Proofs.YtohlmkcgempdlaaGreatDoor.Cn
namespace Go.Proofs.YtohlmkcgempdlaaGreatDoor.QD
open Go.RowKit Go.Proofs.YtohlmkcgempdlaaGreatDoorW.PrintWords Go.Proofs.YtohlmkcgempdlaaGreatDoorW.PrintLast Go.Proofs.YtohlmkcgempdlaaGreatDoorW.PrintMore
attribute [local go_sem] An1 Am9 Ar1 Ar0 Ak8 Ak7 An0 Am8 
set_option linter.unusedVariables false
set_option linter.unusedSimpArgs false
set_option maxRecDepth 100000
attribute [local go_sem high] eqA39
def ratchetlaw15_same.l0 : Nat → List (S39) → List (S39) → Int → Option (Bool)
 | 0, _, _, _ => none
 | k + 1, x0, x1, x5 => if x5 < (x0.length : Int) then (if 0 ≤ x5 then (if x5 < (x1.length : Int) then (if (!(((Ac7 x0 x5).f0) == ((Ac7 x1 x5).f0)) || (!(((Ac7 x0 x5).f1) == ((Ac7 x1 x5).f1)) || (!(((Ac7 x0 x5).f2) == ((Ac7 x1 x5).f2))))) = true then (some false) else (ratchetlaw15_same.l0 k x0 x1 (wrap64 (x5 + 1)))) else (none)) else (none)) else (some true)
def ratchetlaw15_same.f (k : Nat) (l0 : List (S39)) (l1 : List (S39)) : Option (Bool) := if (l0.length : Int) = (l1.length : Int) then (ratchetlaw15_same.l0 k l0 l1 0) else (some false)
set_option maxHeartbeats 8000000 in
theorem ratchetlaw15_same.calls (k : Nat) (A0 : Option Addr) (c0 : Nat) (l0 : List (S39)) (A1 : Option Addr) (c1 : Nat) (l1 : List (S39)) (r : Bool) (w : World) (hr0 : Kd.C k39 w A0 l0.length l0) (hc0 : l0.length ≤ c0) (hr1 : Kd.C k39 w A1 l1.length l1) (hc1 : l1.length ≤ c1) (h : ratchetlaw15_same.f k l0 l1 = some r) :
  Calls Tryz.prog 16 #[.slice A0 l0.length c0, .slice A1 l1.length c1] w fun e w' => e = .returned (.bool r) ∧ Ab6 w w' := by
 have hu39 := Tryz.underlying39
 have HR0 := zA hr0
 have HC0 := zA hc0
 clear hr0 hc0
 have HR1 := zA hr1
 have HC1 := zA hc1
 clear hr1 hc1
 have H : (if (l0.length : Int) = (l1.length : Int) then (ratchetlaw15_same.l0 k l0 l1 0) else (some false)) = some r := h
 clear h
 by_cases c3 : (l0.length : Int) = (l1.length : Int)
 ·rw [if_pos c3] at H
  have c3b0 : ((l0.length : Int) == (l1.length : Int)) = true := beq_iff_eq.mpr c3
  have c3b1 : ((l0.length : Int) != (l1.length : Int)) = false := bne_eq_false_iff_eq.mpr c3
  have c3b2 : (l0.length == l1.length) = true := by first | simpa using c3 | (simp at c3 ⊢; omega)
  clear c3
  have H' := zA H
  clear H
  go_enter Tryz.func16, Tryz.ntmps16
  go_wp2
  repeat (go_quiet (fail); try go_wp2)
  go_loopg [5] k (fun kq v5 w' => ∃ (x5_1 : Int), v5 = .int .i64 x5_1 ∧ Aa2 (ratchetlaw15_same.l0 kq l0 l1 x5_1 = some r) ∧ Aa2 (kq ≤ k) ∧ Ab6 w w')
  case atStart => exact ⟨(0), (by first | rfl | (simp; done) | (simp [*]; done)), H', ⟨Nat.le_refl _⟩, by repeat (first | exact Ab6.refl _ | apply Ab6.step)⟩
  case round =>
   clear H'
   try clear c1
   try clear p2
   try clear c3
   try clear c3b0
   try clear c3b1
   try clear c3b2
   obtain ⟨x5_1, rfl, HA, HK1, ⟨m1, rfl⟩⟩ := hrel
   cases gk with
   | zero => exact absurd HA.out (by simp [ratchetlaw15_same.l0])
   | succ k1 =>
    have H := HA.out
    clear HA
    simp only [ratchetlaw15_same.l0] at H
    by_cases c4 : x5_1 < (l0.length : Int)
    ·rw [if_pos c4] at H
     have c4b0 : decide (x5_1 < (l0.length : Int)) = true := decide_eq_true c4
     clear c4
     by_cases c5 : 0 ≤ x5_1
     ·rw [if_pos c5] at H
      have c5b0 : decide (0 ≤ x5_1) = true := decide_eq_true c5
      clear c5
      by_cases c6 : x5_1 < (l1.length : Int)
      ·rw [if_pos c6] at H
       have c6b0 : decide (x5_1 < (l1.length : Int)) = true := decide_eq_true c6
       clear c6
       by_cases c7 : (!(((Ac7 l0 x5_1).f0) == ((Ac7 l1 x5_1).f0)) || (!(((Ac7 l0 x5_1).f1) == ((Ac7 l1 x5_1).f1)) || (!(((Ac7 l0 x5_1).f2) == ((Ac7 l1 x5_1).f2))))) = true
       ·rw [if_pos c7] at H
        have c7b0 : (!(((Ac7 l0 x5_1).f0) == ((Ac7 l1 x5_1).f0)) || (!(((Ac7 l0 x5_1).f1) == ((Ac7 l1 x5_1).f1)) || (!(((Ac7 l0 x5_1).f2) == ((Ac7 l1 x5_1).f2))))) = true := c7
        clear c7
        obtain rfl := Option.some.inj H
        have p366 : 0 ≤ (x5_1 : Int) := of_decide_eq_true (by first | (with_reducible assumption) | assumption)
        have q366 : x5_1 < (l0.length : Int) := of_decide_eq_true (by first | (with_reducible assumption) | assumption)
        obtain ⟨ad366, e366, hx366_0, hx366_1, hx366_2⟩ := Aq4 HR0.out x5_1 p366 q366
        cases e366
        replace p366 := eq_true p366
        replace q366 := eq_true q366
        have p367 : 0 ≤ (x5_1 : Int) := of_decide_eq_true (by first | (with_reducible assumption) | assumption)
        have q367 : x5_1 < (l1.length : Int) := of_decide_eq_true (by first | (with_reducible assumption) | assumption)
        obtain ⟨ad367, e367, hx367_0, hx367_1, hx367_2⟩ := Aq4 HR1.out x5_1 p367 q367
        cases e367
        replace p367 := eq_true p367
        replace q367 := eq_true q367
        go_wp2
        repeat (go_quiet (fail); try go_wp2)
        go_ret
        exact ⟨by first | rfl | (simp; done) | (simp [*]; done), by repeat (first | exact Ab6.refl _ | apply Ab6.step)⟩
       ·rw [if_neg c7] at H
        have c7b0 : (!(((Ac7 l0 x5_1).f0) == ((Ac7 l1 x5_1).f0)) || (!(((Ac7 l0 x5_1).f1) == ((Ac7 l1 x5_1).f1)) || (!(((Ac7 l0 x5_1).f2) == ((Ac7 l1 x5_1).f2))))) = false := by simpa using c7
        clear c7
        have H' := zA H
        clear H
        have p366 : 0 ≤ (x5_1 : Int) := of_decide_eq_true (by first | (with_reducible assumption) | assumption)
        have q366 : x5_1 < (l0.length : Int) := of_decide_eq_true (by first | (with_reducible assumption) | assumption)
        obtain ⟨ad366, e366, hx366_0, hx366_1, hx366_2⟩ := Aq4 HR0.out x5_1 p366 q366
        cases e366
        replace p366 := eq_true p366
        replace q366 := eq_true q366
        have p367 : 0 ≤ (x5_1 : Int) := of_decide_eq_true (by first | (with_reducible assumption) | assumption)
        have q367 : x5_1 < (l1.length : Int) := of_decide_eq_true (by first | (with_reducible assumption) | assumption)
        obtain ⟨ad367, e367, hx367_0, hx367_1, hx367_2⟩ := Aq4 HR1.out x5_1 p367 q367
        cases e367
        replace p367 := eq_true p367
        replace q367 := eq_true q367
        go_wp2
        repeat (go_quiet (fail); try go_wp2)
        go_roundg k1
        case measure => have := HK1.out; omega
        case rel => exact ⟨(wrap64 (x5_1 + 1)), (by first | rfl | (simp; done) | (simp [*]; done)), H', ⟨by have := HK1.out; omega⟩, by repeat (first | exact Ab6.refl _ | apply Ab6.step)⟩
      ·rw [if_neg c6] at H
       exact absurd H (by simp)
     ·rw [if_neg c5] at H
      exact absurd H (by simp)
    ·rw [if_neg c4] at H
     have c4b0 : decide (x5_1 < (l0.length : Int)) = false := decide_eq_false c4
     clear c4
     obtain rfl := Option.some.inj H
     go_wp2
     repeat (go_quiet (fail); try go_wp2)
     go_ret
     exact ⟨by first | rfl | (simp; done) | (simp [*]; done), by repeat (first | exact Ab6.refl _ | apply Ab6.step)⟩
 ·rw [if_neg c3] at H
  have c3b0 : ((l0.length : Int) == (l1.length : Int)) = false := beq_eq_false_iff_ne.mpr c3
  have c3b1 : ((l0.length : Int) != (l1.length : Int)) = true := bne_iff_ne.mpr c3
  have c3b2 : (l0.length == l1.length) = false := by first | simpa using c3 | (simp at c3 ⊢; omega)
  obtain rfl := Option.some.inj H
  go_enter Tryz.func16, Tryz.ntmps16
  go_wp2
  repeat (go_quiet (fail); try go_wp2)
  go_ret
  exact ⟨by first | rfl | (simp; done) | (simp [*]; done), by repeat (first | exact Ab6.refl _ | apply Ab6.step)⟩
end Go.Proofs.YtohlmkcgempdlaaGreatDoor.QD
namespace Go.Proofs.YtohlmkcgempdlaaGreatDoor.Cn
set_option linter.unusedSimpArgs false
set_option maxRecDepth 100000
set_option linter.unusedVariables false
open Go.RowKit Go.Maps Go.Proofs.YtohlmkcgempdlaaGreatDoorW.PrintWords Go.Proofs.YtohlmkcgempdlaaGreatDoorW.PrintLast Go.Proofs.YtohlmkcgempdlaaGreatDoorW.PrintMore Go.Proofs.YtohlmkcgempdlaaGreatDoor.QD
def ftV (l : List S132) (n : Int) : List S39 × List S39 × Int :=
 match atN l n with
 | some s => if s.f2.f0 = 1 then (s.f2.f1, s.f2.f2, 0) else ([], [], 151)
 | none => ([], [], 150)
def btV (l : List S132) (t : Int) (v : S39) : List S39 × List S39 × Int :=
 if 0 ≤ t then ftV l t else if v.f0 = 0 then ([], [], 0) else if v.f0 = 5 ∧ (v.f2 < -12 ∨ (Af1 l : Int) ≤ v.f2) then ([], [], 150) else ([], [v], 0)
theorem Bb6 {l : List S132} {j : Nat} {r : S132} (h : l[j]? = some r) : Af1 (l.take (j + 1)) = Af1 (l.take j) + r.f0.length := by
 rw [List.take_add_one, h]
 simp [Af1, List.sum_append]
theorem At4 (l : List S132) (j : Nat) : Af1 (l.take j) ≤ Af1 l := by
 conv => rhs; rw [← List.take_append_drop j l]
 unfold Af1
 rw [List.map_append, List.sum_append]
 omega
theorem Ck8 (l : List S132) (hb : vL l ≤ 1048576) : ∀ (m j : Nat), j + m = l.length → types_Count.l0 (m + 1) ((Af1 (l.take j) : Nat) : Int) l (l.length : Int) (j : Int) = some ((Af1 l : Nat) : Int) := by
 have hc := Av1 l
 intro m
 induction m with
 | zero =>
  intro j hj
  rw [types_Count.l0, if_neg (by omega), List.take_of_length_le (by omega)]
 | succ m ih =>
  intro j hj
  have hlt : j < l.length := by omega
  have hs := Bb6 (Av3 l j hlt)
  have ht := At4 l (j + 1)
  have e1 : wrap64 (((Af1 (l.take j) : Nat) : Int) + ((Ad5 l (j : Int)).f0.length : Int)) = ((Af1 (l.take (j + 1)) : Nat) : Int) := by unfold wrap64; omega
  have e2 : wrap64 ((j : Int) + 1) = ((j + 1 : Nat) : Int) := by unfold wrap64; omega
  rw [types_Count.l0, if_pos (by omega), if_pos (by omega), if_pos (by omega), e1, e2]
  exact ih (j + 1) (by omega)
theorem countP (l : List S132) (hb : vL l ≤ 1048576) : types_Count.f (l.length + 1) l = some ((Af1 l : Nat) : Int) := by
 unfold types_Count.f
 exact Ck8 l hb l.length 0 (by omega)
theorem Ck7 (l : List S132) (hb : vL l ≤ 1048576) : ∀ (m j : Nat), j + m = l.length → ratchetref05_Count.l0 (m + 1) l ((Af1 (l.take j) : Nat) : Int) (j : Int) = some ((Af1 l : Nat) : Int) := by
 have hc := Av1 l
 intro m
 induction m with
 | zero =>
  intro j hj
  rw [ratchetref05_Count.l0, if_neg (by omega), List.take_of_length_le (by omega)]
 | succ m ih =>
  intro j hj
  have hlt : j < l.length := by omega
  have hs := Bb6 (Av3 l j hlt)
  have ht := At4 l (j + 1)
  have e1 : wrap64 (((Af1 (l.take j) : Nat) : Int) + ((Ad5 l (j : Int)).f0.length : Int)) = ((Af1 (l.take (j + 1)) : Nat) : Int) := by unfold wrap64; omega
  have e2 : wrap64 ((j : Int) + 1) = ((j + 1 : Nat) : Int) := by unfold wrap64; omega
  rw [ratchetref05_Count.l0, if_pos (by omega), if_pos (by omega), e1, e2]
  exact ih (j + 1) (by omega)
theorem countR (l : List S132) (hb : vL l ≤ 1048576) : ratchetref05_Count.f (l.length + 1) l = some ((Af1 l : Nat) : Int) := by
 unfold ratchetref05_Count.f
 exact Ck7 l hb l.length 0 (by omega)
def OPS : List Int := [0, 1, 8, 10, 12, 13, 14, 15, 16, 17, 18, 19, 20, 21, 213, 214]
theorem Bw9 : ∀ (l : List S132) (n : Int) (s : S123), atV l n = some s → ∃ r ∈ l, s ∈ r.f0
 | [], n, s, h => by simp [atV] at h
 | r :: l, n, s, h => by
  unfold atV at h
  split at h
  ·exact ⟨r, List.mem_cons_self, List.mem_of_getElem? h⟩
  ·obtain ⟨r', h1, h2⟩ := Bw9 l _ s h
   exact ⟨r', List.mem_cons_of_mem _ h1, h2⟩
structure XIn (w : World) (A0 : Option Addr) (c0 : Nat) (l0 : List S132) (A1 : Option Addr) (c1 : Nat) (l1 : List Int) (A2 : Option Addr) (c2 : Nat) (l2 : List S214) (A3 : Option Addr) (c3 : Nat) (l3 : List S212) (A4 : Option Addr) (c4 : Nat) (l4 : List S292) (A5 : Option Addr) (c5 : Nat) (l5 : List Int) (A6 : Option Addr) (c6 : Nat) (l6 : List S39) (d7 : Int) (A8 : Option Addr) (c8 : Nat) (l8 : List Bool) : Prop where
 r0 : Kd.C k132 w A0 l0.length l0
 h0 : l0.length ≤ c0
 r1 : Kd.C (Kd.int .i64) w A1 l1.length l1
 h1 : l1.length ≤ c1
 r2 : Kd.C k214 w A2 l2.length l2
 h2 : l2.length ≤ c2
 r3 : Kd.C k212 w A3 l3.length l3
 h3 : l3.length ≤ c3
 r4 : Kd.C k292 w A4 l4.length l4
 h4 : l4.length ≤ c4
 r5 : Kd.C (Kd.int .i64) w A5 l5.length l5
 h5 : l5.length ≤ c5
 r6 : Kd.C k39 w A6 l6.length l6
 h6 : l6.length ≤ c6
 r8 : Kd.C Kd.bool w A8 l8.length l8
 h8 : l8.length ≤ c8
 bulk : vL l0 ≤ 1048576
theorem XIn.below {w w' : World} {A0 : Option Addr} {c0 : Nat} {l0 : List S132} {A1 : Option Addr} {c1 : Nat} {l1 : List Int} {A2 : Option Addr} {c2 : Nat} {l2 : List S214} {A3 : Option Addr} {c3 : Nat} {l3 : List S212} {A4 : Option Addr} {c4 : Nat} {l4 : List S292} {A5 : Option Addr} {c5 : Nat} {l5 : List Int} {A6 : Option Addr} {c6 : Nat} {l6 : List S39} {d7 : Int} {A8 : Option Addr} {c8 : Nat} {l8 : List Bool} (h : XIn w A0 c0 l0 A1 c1 l1 A2 c2 l2 A3 c3 l3 A4 c4 l4 A5 c5 l5 A6 c6 l6 d7 A8 c8 l8) (hb : Below w.heap.size w w') : XIn w' A0 c0 l0 A1 c1 l1 A2 c2 l2 A3 c3 l3 A4 c4 l4 A5 c5 l5 A6 c6 l6 d7 A8 c8 l8 := ⟨Kd.Ab1 h.r0 hb, h.h0, Kd.Ab1 h.r1 hb, h.h1, Kd.Ab1 h.r2 hb, h.h2, Kd.Ab1 h.r3 hb, h.h3, Kd.Ab1 h.r4 hb, h.h4, Kd.Ab1 h.r5 hb, h.h5, Kd.Ab1 h.r6 hb, h.h6, Kd.Ab1 h.r8 hb, h.h8, h.bulk⟩
def FtOut (r : List S39 × List S39 × Int) (w : World) (e : Ending) (w' : World) : Prop :=
 ∃ v1 v2, e = .returned (.tuple #[v1, v2, .int .i64 r.2.2]) ∧ VR w' v1 r.1 ∧ VR w' v2 r.2.1 ∧ Below w.heap.size w w'
def FtOwn (r : List S39 × List S39 × Int) (w : World) (e : Ending) (w' : World) : Prop :=
 ∃ v1 v2, e = .returned (.tuple #[v1, v2, .int .i64 r.2.2]) ∧ VQ w.heap.size w' v1 r.1 ∧ VQ w.heap.size w' v2 r.2.1 ∧ Below w.heap.size w w'
set_option maxHeartbeats 8000000 in
theorem Ap1 (A0 : Option Addr) (c0 : Nat) (l0 : List S132) (A1 : Option Addr) (c1 : Nat) (l1 : List Int) (A2 : Option Addr) (c2 : Nat) (l2 : List S214) (A3 : Option Addr) (c3 : Nat) (l3 : List S212) (A4 : Option Addr) (c4 : Nat) (l4 : List S292) (A5 : Option Addr) (c5 : Nat) (l5 : List Int) (A6 : Option Addr) (c6 : Nat) (l6 : List S39) (d7 : Int) (A8 : Option Addr) (c8 : Nat) (l8 : List Bool) (n : Int) (w : World) (hx : XIn w A0 c0 l0 A1 c1 l1 A2 c2 l2 A3 c3 l3 A4 c4 l4 A5 c5 l5 A6 c6 l6 d7 A8 c8 l8) (hn : NV64 n) :
  Calls Tryz.prog 23 #[.agg #[.slice A0 l0.length c0, .slice A1 l1.length c1, .slice A2 l2.length c2, .slice A3 l3.length c3, .slice A4 l4.length c4, .slice A5 l5.length c5, .slice A6 l6.length c6, .int .i64 d7, .slice A8 l8.length c8], .int .i64 n] w (FtOwn (ftV l0 n) w) := by
 obtain ⟨W1, hW1⟩ : ∃ W1, W1 = w.alloc (.cells #[.slice A0 l0.length c0, .slice A1 l1.length c1, .slice A2 l2.length c2, .slice A3 l3.length c3, .slice A4 l4.length c4, .slice A5 l5.length c5, .slice A6 l6.length c6, .int .i64 d7, .slice A8 l8.length c8] 30) := ⟨_, rfl⟩
 have b1 : Below w.heap.size w W1 := by rw [hW1]; exact bz_
 have B1 := zA b1
 have K := Cf2 A0 c0 l0 n W1 (Kd.Ab1 hx.r0 b1) hx.bulk hn
 clear b1 hx hn
 cases hs : atN l0 n with
 | none =>
  have EV : ftV l0 n = ([], [], 150) := by unfold ftV; rw [hs]
  rw [EV]
  rw [hs] at K
  clear hs EV
  go_enter Tryz.func23, Tryz.ntmps23
  go_wp2_with fail
  rw [← hW1]
  clear hW1
  refine K.mono ?_
  rintro e w2 ⟨rfl, hb⟩
  have B2 := zA (B1.out.trans (hb.mono B1.out.size))
  clear hb K
  go_wp2_with fail
  refine bodyPost_ret (results_tmp3 rfl _ _ _) rfl ?_
  exact ⟨_, _, rfl, VQ.nil _ _, VQ.nil _ _, B2.out.alloc B2.out.size _⟩
 | some t =>
  have EV : ftV l0 n = if t.f2.f0 = 1 then (t.f2.f1, t.f2.f2, 0) else ([], [], 151) := by unfold ftV; rw [hs]
  rw [EV]
  rw [hs] at K
  clear hs EV
  by_cases hk : t.f2.f0 = 1
  ·rw [if_pos hk]
   have ek : (t.f2.f0 != 1) = false := by simp [hk]
   clear hk
   go_enter Tryz.func23, Tryz.ntmps23
   go_wp2_with fail
   rw [← hW1]
   clear hW1
   refine K.mono ?_
   rintro e w2 ⟨E1, n1, m1, v2, v3, E4, n4, m4, i, p, rfl, hr2, hr3, hb⟩
   have B2 := zA (B1.out.trans (hb.mono B1.out.size))
   have R2 := zA hr2
   have R3 := zA hr3
   obtain ⟨D2, d2, e2, l2_, x2⟩ := hr2
   obtain ⟨D3, d3, e3, l3_, x3⟩ := hr3
   subst e2 e3
   clear x2 x3 l2_ l3_ hb K
   obtain ⟨W3, hW3⟩ : ∃ W3, W3 = w2.alloc (.cells #[.bool t.f0, .slice E1 n1 m1, .int .i64 t.f2.f0, .slice D2 t.f2.f1.length d2, .slice D3 t.f2.f2.length d3, .slice E4 n4 m4] 123) := ⟨_, rfl⟩
   have B3 : Aa2 (Below w.heap.size w W3) := ⟨by rw [hW3]; exact B2.out.alloc B2.out.size _⟩
   have BB : Aa2 (Below w2.heap.size w2 W3) := ⟨by rw [hW3]; exact bz_⟩
   have hq : W3.heap[w2.heap.size]? = some (.cells #[.bool t.f0, .slice E1 n1 m1, .int .i64 t.f2.f0, .slice D2 t.f2.f1.length d2, .slice D3 t.f2.f2.length d3, .slice E4 n4 m4] 123 (0, 0)) := by rw [hW3]; exact Aa6 w2 _
   have z3 : W3.cell? ⟨w2.heap.size, 3, none⟩ = some (.slice D2 t.f2.f1.length d2) := (Aa0 hq 3).trans rfl
   have z4 : W3.cell? ⟨w2.heap.size, 4, none⟩ = some (.slice D3 t.f2.f2.length d3) := (Aa0 hq 4).trans rfl
   clear hq
   go_wp2_with fail
   rw [← hW3]
   clear hW3
   refine Ab3 (n := 9) (S := fun w' => w'.cell? ⟨w2.heap.size, 3, none⟩ = some (.slice D2 t.f2.f1.length d2) ∧ w'.cell? ⟨w2.heap.size, 4, none⟩ = some (.slice D3 t.f2.f2.length d3)) (ds := []) (bm_ 9 0) (by kernel_rfl) rfl rfl ⟨z3, z4⟩ (fun hHeld => ?_)
   refine pz_ 0 28 9 1 ?_
   refine pz_ 1 29 9 3 ?_
   refine pz_ 3 31 9 11 ?_
   refine pz_ 4 32 9 27 ?_
   refine tz_ 2 30 9 31 hHeld ?_
   refine pz_ 6 4 9 95 ?_
   refine tz_ 5 33 9 127 hHeld ?_
   refine pz_ 7 5 9 255 ?_
   refine pz_ 8 6 9 511 ?_
   refine dz_ ?_
   go_wp2_with fail
   refine bodyPost_ret (results_tmp3 rfl _ _ _) rfl ?_
   exact ⟨_, _, rfl, (R2.out.below BB.out.drew).down B1.out.size, (R3.out.below BB.out.drew).down B1.out.size, B3.out.drew⟩
  ·rw [if_neg hk]
   have ek : (t.f2.f0 != 1) = true := by simp [hk]
   clear hk
   go_enter Tryz.func23, Tryz.ntmps23
   go_wp2_with fail
   rw [← hW1]
   clear hW1
   refine K.mono ?_
   rintro e w2 ⟨E1, n1, m1, v2, v3, E4, n4, m4, i, p, rfl, hr2, hr3, hb⟩
   have B2 := zA (B1.out.trans (hb.mono B1.out.size))
   obtain ⟨D2, d2, e2, l2_, x2⟩ := hr2
   obtain ⟨D3, d3, e3, l3_, x3⟩ := hr3
   subst e2 e3
   clear x2 x3 l2_ l3_ hb K
   go_wp2_with fail
   refine bodyPost_ret (results_tmp3 rfl _ _ _) rfl ?_
   exact ⟨_, _, rfl, VQ.nil _ _, VQ.nil _ _, B2.out.alloc B2.out.size _⟩
theorem Bb7 (A0 : Option Addr) (c0 : Nat) (l0 : List S132) (A1 : Option Addr) (c1 : Nat) (l1 : List Int) (A2 : Option Addr) (c2 : Nat) (l2 : List S214) (A3 : Option Addr) (c3 : Nat) (l3 : List S212) (A4 : Option Addr) (c4 : Nat) (l4 : List S292) (A5 : Option Addr) (c5 : Nat) (l5 : List Int) (A6 : Option Addr) (c6 : Nat) (l6 : List S39) (d7 : Int) (A8 : Option Addr) (c8 : Nat) (l8 : List Bool) (n : Int) (w : World) (hx : XIn w A0 c0 l0 A1 c1 l1 A2 c2 l2 A3 c3 l3 A4 c4 l4 A5 c5 l5 A6 c6 l6 d7 A8 c8 l8) (hn : NV64 n) :
  Calls Tryz.prog 23 #[.agg #[.slice A0 l0.length c0, .slice A1 l1.length c1, .slice A2 l2.length c2, .slice A3 l3.length c3, .slice A4 l4.length c4, .slice A5 l5.length c5, .slice A6 l6.length c6, .int .i64 d7, .slice A8 l8.length c8], .int .i64 n] w (FtOut (ftV l0 n) w) :=
 (Ap1 A0 c0 l0 A1 c1 l1 A2 c2 l2 A3 c3 l3 A4 c4 l4 A5 c5 l5 A6 c6 l6 d7 A8 c8 l8 n w hx hn).mono (fun e w' ⟨v1, v2, e1, h1, h2, h3⟩ => ⟨v1, v2, e1, h1.vr, h2.vr, h3⟩)
end Go.Proofs.YtohlmkcgempdlaaGreatDoor.Cn
