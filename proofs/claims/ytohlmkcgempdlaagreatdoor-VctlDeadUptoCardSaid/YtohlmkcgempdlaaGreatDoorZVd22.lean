/- Parts of the proof of vctlDead_holds (22 of 24): what it says and shows stands at its declarations. -/
import Derived.Test.YtohlmkcgempdlaaGreatDoorZVd21
namespace Go.Proofs.YtohlmkcgempdlaaGreatDoor.Cn
set_option linter.unusedSimpArgs false
set_option maxRecDepth 100000
set_option linter.unusedVariables false
open Go.RowKit Go.Maps Go.Proofs.YtohlmkcgempdlaaGreatDoorW.PrintWords Go.Proofs.YtohlmkcgempdlaaGreatDoorW.PrintLast Go.Proofs.YtohlmkcgempdlaaGreatDoorW.PrintMore Go.Proofs.YtohlmkcgempdlaaGreatDoor.QD
section
variable {w1 w w' : World} {D S S' : Nat → Prop} {kb g : Nat} {X : CX} {I : IX} {k k' : Chk} {f : Fr}
set_option maxHeartbeats 8000000 in
theorem vOnNonNull_calls (h : St D S g k w) (hF : Fit k f) (hk : KI w1 D S kb g X I w) (hx : XK w1 X I) (hG : GOk X.l0) : Calls Tryz.prog 98 #[.pointer (some ⟨kb, 0, none⟩)] w (SOut D S g (onNonNullM X k f I.x) w) := by
 obtain ⟨er, l, hr⟩ : ∃ er l, labM k.frames I.x = (er, l) := ⟨_, _, rfl⟩
 obtain ⟨pe, x, kp, hpr⟩ : ∃ pe x kp, popRefM k f = (pe, x, kp) := ⟨_, _, _, rfl⟩
 obtain ⟨se, ks, hsw⟩ : ∃ se ks, swapM kp f l.dropLast l.dropLast = (se, ks) := ⟨_, _, rfl⟩
 obtain ⟨y, hy⟩ : ∃ y, y = l.getLastD v0 := ⟨_, rfl⟩
 have hll := labM_len hF.ios I.x
 have bd : Below w.heap.size w w.drew := (Below.refl _ _).drew
 have KL := hF.lab (h.below bd) I.x hx.x32
 obtain ⟨rr, hrr⟩ : ∃ rr, rr = onNonNullM X k f I.x := ⟨_, rfl⟩
 have HR : Aside0 (rr = if er ≠ 0 then (er, k) else if y.f0 ≠ 5 then (131, k) else if pe ≠ 0 then (pe, kp) else if x.f0 = 5 ∧ valM X.l0 ⟨5, false, x.f2⟩ y = false then (131, backM kp k.ops.length x) else if se ≠ 0 then (se, backM kp k.ops.length x) else (0, ks)) := ⟨by rw [hrr]; unfold onNonNullM; rw [hr, hpr]; dsimp only; rw [hsw, hy]⟩
 have HPF : Aside0 (pe = 0 → Fit kp f) := ⟨fun e => by have h_ := hF.popRef (by rw [hpr]; exact e); rw [hpr] at h_; exact h_⟩
 have HPR := Aside0.mk hpr
 have HSW := Aside0.mk hsw
 have HY := Aside0.mk hy
 rw [← hrr]
 rw [hr] at KL hll
 clear hrr hsw hpr hy
 have H := Aside0.mk h
 have HF := Aside0.mk hF
 have HK := Aside0.mk hk
 have HX := Aside0.mk hx
 have HG := Aside0.mk hG
 have HL := Aside0.mk hll
 have BD := Aside0.mk bd
 have hkd := hk.below bd
 have z9 : w.drew.cell? ⟨kb, 9, none⟩ = some (.pointer (some ⟨g, 0, none⟩)) := (blk_cell hkd.box 9).trans rfl
 have z11 : w.drew.cell? ⟨kb, 11, none⟩ = some (.int .u32 I.x) := (blk_cell hkd.box 11).trans rfl
 have HE : Aside0 (er = 0 ∨ er ≠ 0) := ⟨Decidable.em _⟩
 clear h hF hk hx hr hll bd hkd hG
 go_enter Tryz.func98, Tryz.ntmps98
 go_wp2_with fail
 obtain ⟨w2, hw2⟩ : ∃ w2, World.drew w = w2 := ⟨_, rfl⟩
 rw [hw2] at KL BD z9 z11
 refine start_ (n := 15) (S := fun w' => w'.cell? ⟨kb, 9, none⟩ = some (.pointer (some ⟨g, 0, none⟩)) ∧ w'.cell? ⟨kb, 11, none⟩ = some (.int .u32 I.x)) (ds := []) (bm_ 15 0) (by kernel_rfl) rfl rfl ⟨(by rw [hw2]; exact z9), (by rw [hw2]; exact z11)⟩ (fun hHeld => ?_)
 rw [hw2] at hHeld ⊢
 clear hw2 z9 z11
 refine pz_ 0 10 15 1 ?_
 refine pz_ 1 11 15 3 ?_
 refine pz_ 2 12 15 7 ?_
 refine pz_ 4 14 15 23 ?_
 refine pz_ 5 15 15 55 ?_
 refine pz_ 6 16 15 119 ?_
 refine pz_ 7 17 15 247 ?_
 refine tz_ 3 13 15 255 hHeld ?_
 refine tz_ 8 18 15 511 hHeld ?_
 refine oz_ 9 19 15 1023 fun K hK => ?_
 refine gz_ Tryz.func78 #[.pointer (some ⟨g, 0, none⟩), .int .u32 I.x] ?_
 with_reducible refine (KL).mono ?_
 rintro e w3 ⟨v, rfl, hl, hb⟩
 obtain ⟨A, c, rfl⟩ := hl.slice
 have HL3 := Aside0.mk hl
 have B3 := Aside0.mk (BD.out.trans (hb.mono BD.out.size))
 have HB := Aside0.mk hb
 clear hl hb
 refine ⟨_, rfl, ?_⟩
 refine hK.out _ _ ⟨HB.out.kp hHeld.1, HB.out.kp hHeld.2⟩ (fun hHeld => ?_)
 clear hK K
 refine nz_ ?_
 refine pz_ 10 9 15 2047 ?_
 refine pz_ 11 20 15 4095 ?_
 refine pz_ 12 21 15 8191 ?_
 refine pz_ 13 3 15 16383 ?_
 refine pz_ 14 4 15 32767 ?_
 refine dz_ ?_
 clear KL
 rcases HE.out with he | he
 rotate_left
 ·have HR2 : Aside0 (rr = (er, k)) := ⟨by rw [HR.out, if_pos he]⟩
  have g0 : (er == 0) = false := beq_eq_false_iff_ne.mpr he
  have g1 : (er != 0) = true := bne_iff_ne.mpr he
  clear he HR HPF
  go_wp2_with fail
  go_ret
  rw [HR2.out]
  exact ⟨rfl, S, (Kst.refl H.out).below B3.out⟩
 subst he
 clear HE
 have HR0 : Aside0 (rr = if y.f0 ≠ 5 then (131, k) else if pe ≠ 0 then (pe, kp) else if x.f0 = 5 ∧ valM X.l0 ⟨5, false, x.f2⟩ y = false then (131, backM kp k.ops.length x) else if se ≠ 0 then (se, backM kp k.ops.length x) else (0, ks)) := ⟨by rw [HR.out, if_neg (by simp)]⟩
 clear HR
 by_cases hl0 : l = []
 ·have HR2 : Aside0 (rr = (131, k)) := ⟨by rw [HR0.out, if_pos (by rw [HY.out, hl0]; decide)]⟩
  subst hl0
  clear HR0 HPF
  go_wp2_with fail
  go_ret
  rw [HR2.out]
  exact ⟨rfl, S, (Kst.refl H.out).below B3.out⟩
 obtain ⟨m, hm⟩ : ∃ m, l.length = m + 1 := ⟨l.length - 1, by have := List.length_pos_iff.2 hl0; omega⟩
 have hlm : l[m]? = some y := by
  obtain ⟨z, hz⟩ : ∃ z, l[m]? = some z := ⟨_, List.getElem?_eq_getElem (by omega)⟩
  have h1 : l.getLast? = some z := by rw [List.getLast?_eq_getElem?, hm]; exact hz
  rw [hz, HY.out, List.getLastD_eq_getLast?, h1]
  rfl
 obtain ⟨ad, eA, y0, y1, y2⟩ := vt_at HL3.out.reads.2.2 hlm
 subst eA
 have HLD : Aside0 (l.dropLast = l.take m) := ⟨by rw [List.dropLast_eq_take, hm]; rfl⟩
 have MB : Aside0 (m ≤ 1048576) := ⟨by have := HL.out; omega⟩
 obtain ⟨n, hn⟩ : ∃ n, n = l.length := ⟨_, rfl⟩
 have HN := Aside0.mk (And.intro hn hm)
 have HY3 := Aside0.mk (And.intro y0 (And.intro y1 y2))
 rw [← hn] at HL3 ⊢
 have e1 : wrap64 ((n : Int) - 1) = (m : Int) := by have := MB.out; unfold wrap64; omega
 have e2 : (n == 0) = false := beq_eq_false_iff_ne.mpr (by omega)
 have e5 : ((n : Int) == 0) = false := beq_eq_false_iff_ne.mpr (by omega)
 have e3 : (m : Int) < (n : Int) := by omega
 have e4 : (0 : Int) ≤ (m : Int) := Int.natCast_nonneg m
 clear hlm hm hl0 hn
 by_cases hy5 : y.f0 = 5
 rotate_left
 ·have g0 : (y.f0 == 5) = false := beq_eq_false_iff_ne.mpr hy5
  have g1 : (y.f0 != 5) = true := bne_iff_ne.mpr hy5
  have HR2 : Aside0 (rr = (131, k)) := ⟨by rw [HR0.out, if_pos hy5]⟩
  clear HR0 HPF hy5
  go_wp2_with fail
  go_ret
  rw [HR2.out]
  exact ⟨rfl, S, (Kst.refl H.out).below B3.out⟩
 have g0 : (y.f0 == 5) = true := beq_iff_eq.mpr hy5
 have g1 : (y.f0 != 5) = false := bne_eq_false_iff_eq.mpr hy5
 have HR : Aside0 (rr = if pe ≠ 0 then (pe, kp) else if x.f0 = 5 ∧ valM X.l0 ⟨5, false, x.f2⟩ y = false then (131, backM kp k.ops.length x) else if se ≠ 0 then (se, backM kp k.ops.length x) else (0, ks)) := ⟨by rw [HR0.out, if_neg (fun h_ => h_ hy5)]⟩
 clear HR0 hy5
 have H3 := H.out.below B3.out
 have K3 := Aside0.mk (HK.out.below B3.out)
 have KH := kHeight_calls H3
 have KP := vpopRef_calls H3 HF.out K3.out
 rw [HPR.out] at KP
 dsimp only at KP
 have z9 := K3.out.pc
 have H3 := Aside0.mk H3
 have HE2 : Aside0 (pe = 0 ∨ pe ≠ 0) := ⟨Decidable.em _⟩
 obtain ⟨h0, hh0⟩ : ∃ h0, h0 = k.ops.length := ⟨_, rfl⟩
 have HM := Aside0.mk hh0
 rw [← hh0] at KH
 clear hh0
 go_wp2_with fail
 refine KH.mono ?_
 rintro e w3 ⟨rfl, rfl⟩
 clear KH z9 y0 y1 y2
 go_wp2_with fail
 refine KP.mono ?_
 rintro e w4 ⟨rfl, S4, q4⟩
 have Q4 := Aside0.mk q4
 clear KP q4
 rcases HE2.out with he2 | he2
 rotate_left
 ·have HR2 : Aside0 (rr = (pe, kp)) := ⟨by rw [HR.out, if_pos he2]⟩
  have g2 : (pe == 0) = false := beq_eq_false_iff_ne.mpr he2
  have g3 : (pe != 0) = true := bne_iff_ne.mpr he2
  clear he2 HE2 HR HPF
  go_wp2_with fail
  go_ret
  rw [HR2.out]
  exact ⟨rfl, S4, (Q4.out.ahead B3.out).below (bz_)⟩
 subst he2
 clear HE2
 have hFp := HPF.out rfl
 have HR2 : Aside0 (rr = if x.f0 = 5 ∧ valM X.l0 ⟨5, false, x.f2⟩ y = false then (131, backM kp k.ops.length x) else if se ≠ 0 then (se, backM kp k.ops.length x) else (0, ks)) := ⟨by rw [HR.out, if_neg (by simp)]⟩
 clear HR HPF
 go_wp2_with fail
 obtain ⟨w5, hw5⟩ : ∃ w5, World.drew (w4.alloc (.cells #[.int .i64 x.f0, .bool x.f1, .int .i64 x.f2] 39)) = w5 := ⟨_, rfl⟩
 have b5 : Below w4.heap.size w4 w5 := by rw [← hw5]; exact (bz_).drew
 have q5 : w5.heap[w4.heap.size]? = some (.cells #[.int .i64 x.f0, .bool x.f1, .int .i64 x.f2] 39 (0, 0)) := by rw [← hw5]; exact blk_new w4 _
 have Q5 := Aside0.mk q5
 have B5 := Aside0.mk b5
 have HFP := Aside0.mk hFp
 have hk4 := K3.out.kst Q4.out
 have HK5 := Aside0.mk (hk4.below b5)
 have H5 := Aside0.mk (Q4.out.st.below b5)
 have l5 := (HL3.out.kst Q4.out).below b5
 have L5 := Aside0.mk l5
 have SL : Aside0 (∀ y, S4 y ∨ D y → y < w4.heap.size) := ⟨fun y e => Q4.out.st.lt y e⟩
 have hlm : l[m]? = some y := by
  obtain ⟨z, hz⟩ : ∃ z, l[m]? = some z := ⟨_, List.getElem?_eq_getElem (by have := HN.out.2; omega)⟩
  have h1 : l.getLast? = some z := by rw [List.getLast?_eq_getElem?, HN.out.2]; exact hz
  rw [hz, HY.out, List.getLastD_eq_getLast?, h1]
  rfl
 obtain ⟨ad', eA, y0, y1, y2⟩ := vt_at l5.reads.2.2 hlm
 cases eA
 have hmc : (m : Int) ≤ (c : Int) := by have := HL3.out.reads; have := HN.out; omega
 have hmc2 : m ≤ c := by omega
 clear b5 q5 hk4 l5 hlm hFp
 refine start_ (n := 14) (S := fun w' => w'.cell? (ad.add (m * 3)) = some (.int .i64 y.f0) ∧ w'.cell? ⟨(ad.add (m * 3)).block, (ad.add (m * 3)).off + 1, none⟩ = some (.bool y.f1) ∧ w'.cell? ⟨(ad.add (m * 3)).block, (ad.add (m * 3)).off + 2, none⟩ = some (.int .i64 y.f2)) (ds := [13]) (bm_ 14 0) (by kernel_rfl) rfl rfl ⟨(by rw [hw5]; exact y0), (by rw [hw5]; exact y1), (by rw [hw5]; exact y2)⟩ (fun hHeld => ?_)
 rw [hw5] at hHeld ⊢
 clear hw5 y0 y1 y2
 refine pz_ 0 51 14 1 ?_
 refine pz_ 1 52 14 3 ?_
 refine pz_ 2 53 14 7 ?_
 refine pz_ 3 54 14 15 ?_
 refine pz_ 4 55 14 31 ?_
 refine pz_ 5 56 14 63 ?_
 refine pz_ 6 57 14 127 ?_
 refine pz_ 7 58 14 255 ?_
 refine pz_ 8 59 14 511 ?_
 refine pz_ 9 60 14 1023 ?_
 refine tz_ 10 61 14 2047 hHeld ?_
 refine oz_ 11 8 14 4095 fun K hK => ?_
 refine vz_ ?_
 refine hK.out _ _ ⟨((bz_ : Below w5.heap.size w5 (w5.alloc _)).cell (World.block_lt_of_cell? _ _ hHeld.1)).trans hHeld.1, ((bz_ : Below w5.heap.size w5 (w5.alloc _)).cell (World.block_lt_of_cell? _ _ hHeld.2.1)).trans hHeld.2.1, ((bz_ : Below w5.heap.size w5 (w5.alloc _)).cell (World.block_lt_of_cell? _ _ hHeld.2.2)).trans hHeld.2.2⟩ (fun hHeld => ?_)
 clear hK K
 refine nz_ ?_
 refine pz_ 12 7 14 8191 ?_
 refine last_ (i := 13) (N := none) (bm_ 14 16383) rfl rfl (by kernel_rfl) (by decide) (fun K hK => ?_)
 refine sz_ ?_
 refine hK.out _ _ ?_
 clear hK K
 refine dz_ ?_
 go_wp2_with fail
 obtain ⟨w6, hw6⟩ : ∃ w6, World.drew (w5.alloc (.cells #[.int .i64 y.f0, .bool y.f1, .int .i64 y.f2] 39)) = w6 := ⟨_, rfl⟩
 have b6 : Below w5.heap.size w5 w6 := by rw [← hw6]; exact (bz_).drew
 have qy : w6.heap[w5.heap.size]? = some (.cells #[.int .i64 y.f0, .bool y.f1, .int .i64 y.f2] 39 (0, 0)) := by rw [← hw6]; exact blk_new w5 _
 have QY := Aside0.mk qy
 have qx := blk_below Q5.out b6
 have QX := Aside0.mk qx
 have HK6 := Aside0.mk (HK5.out.below b6)
 have H6 := Aside0.mk (H5.out.below b6)
 have L6 := Aside0.mk ((L5.out.below b6))
 have Q46 := Aside0.mk ((Q4.out.below B5.out).below b6)
 have x0 : w6.cell? ⟨w4.heap.size, 0, none⟩ = some (.int .i64 x.f0) := (blk_cell qx 0).trans rfl
 have x2 : w6.cell? ⟨w4.heap.size, 2, none⟩ = some (.int .i64 x.f2) := (blk_cell qx 2).trans rfl
 have y0 : w6.cell? ⟨w5.heap.size, 0, none⟩ = some (.int .i64 y.f0) := (blk_cell qy 0).trans rfl
 have y1 : w6.cell? ⟨w5.heap.size, 1, none⟩ = some (.bool y.f1) := (blk_cell qy 1).trans rfl
 have y2 : w6.cell? ⟨w5.heap.size, 2, none⟩ = some (.int .i64 y.f2) := (blk_cell qy 2).trans rfl
 have z0 : w6.cell? ⟨kb, 0, none⟩ = some (.slice X.A0 X.l0.length X.c0) := (blk_cell HK6.out.box 0).trans rfl
 clear b6 qy qx hmc hmc2 e1 e2 e3 e4 e5 g0 g1
 by_cases hx5 : x.f0 = 5
 rotate_left
 ·have g4 : (x.f0 == 5) = false := beq_eq_false_iff_ne.mpr hx5
  have HR4 : Aside0 (rr = if se ≠ 0 then (se, backM kp k.ops.length x) else (0, ks)) := ⟨by rw [HR2.out, if_neg (fun h_ => hx5 h_.1)]⟩
  have BZ : Aside0 (Below w6.heap.size w6 w6) := ⟨Below.refl _ _⟩
  clear HR2 hx5
  refine start_ (n := 16) (S := fun w' => w'.cell? ⟨w4.heap.size, 0, none⟩ = some (.int .i64 x.f0)) (ds := []) (bm_ 16 0) (by kernel_rfl) rfl rfl ((by rw [hw6]; exact x0)) (fun hHeld => ?_)
  rw [hw6] at hHeld ⊢
  clear hw6 x0 x2 y0 y1 y2 z0
  refine pz_ 0 62 16 1 ?_
  refine tz_ 1 63 16 3 hHeld ?_
  refine pz_ 2 64 16 7 ?_
  refine pz_ 3 65 16 15 ?_
  refine uz_ 4 66 16 31 ?_
  refine uz_ 5 67 16 63 ?_
  refine uz_ 6 68 16 127 ?_
  refine uz_ 7 69 16 255 ?_
  refine uz_ 8 70 16 511 ?_
  refine uz_ 9 71 16 1023 ?_
  refine uz_ 10 72 16 2047 ?_
  refine uz_ 11 73 16 4095 ?_
  refine uz_ 12 74 16 8191 ?_
  refine uz_ 13 75 16 16383 ?_
  refine uz_ 14 76 16 32767 ?_
  refine pz_ 15 77 16 65535 ?_
  refine dz_ ?_
  clear g4
  have LZ := Aside0.mk ((LK.take (show LK k39 (fun y => S4 y ∨ D y) w6 (.slice (some ad) l.length c) l by have h_ := L6.out; rw [HN.out.1] at h_; exact h_) m (by have := HN.out.2; omega)).below BZ.out)
  have KS := vswap_calls (A1 := some ad) (A2 := some ad) (c1 := c) (c2 := c) (l1 := l.take m) (l2 := l.take m) (H6.out.below BZ.out) HFP.out (by have h_ := LZ.out; rw [show (l.take m).length = m by rw [List.length_take]; have := HN.out.2; omega]; exact h_) (by have h_ := LZ.out; rw [show (l.take m).length = m by rw [List.length_take]; have := HN.out.2; omega]; exact h_) (by rw [List.length_take]; have := MB.out; omega) (by rw [List.length_take]; have := MB.out; omega)
  rw [show (l.take m).length = m by rw [List.length_take]; have := HN.out.2; omega, ← HLD.out, HSW.out] at KS
  have z9 : w6.cell? ⟨kb, 9, none⟩ = some (.pointer (some ⟨g, 0, none⟩)) := (HK6.out.below BZ.out).pc
  have HE3 : Aside0 (se = 0 ∨ se ≠ 0) := ⟨Decidable.em _⟩
  unfold SOut at KS
  go_wp2_with fail
  refine KS.mono ?_
  rintro e w8 ⟨rfl, S8, q8⟩
  have Q8 := Aside0.mk q8
  have QXZ := Aside0.mk (q8.chg.blk (blk_below QX.out BZ.out) (fun e => by have := SL.out _ (.inl e); omega))
  have HK8 := Aside0.mk ((HK6.out.below BZ.out).kst q8)
  clear KS q8 z9
  dsimp only
  rcases HE3.out with he3 | he3
  ·subst he3
   have HR3 : Aside0 (rr = (0, ks)) := ⟨by rw [HR4.out, if_neg (by simp)]⟩
   clear HR4 HE3
   go_wp2_with fail
   go_ret
   rw [HR3.out]
   exact ⟨rfl, S8, (Q46.out.ahead B3.out).below BZ.out |>.trans Q8.out⟩
  ·have HR3 : Aside0 (rr = (se, backM kp k.ops.length x)) := ⟨by rw [HR4.out, if_pos he3]⟩
   have g6 : (se == 0) = false := beq_eq_false_iff_ne.mpr he3
   have g7 : (se != 0) = true := bne_iff_ne.mpr he3
   have hkp : ks = kp := by have h_ := swapM_bad (k := kp) (f := f) (l1 := l.dropLast) (l2 := l.dropLast) (by rw [HSW.out]; exact he3); rw [HSW.out] at h_; exact h_
   subst hkp
   clear HR4 HE3 he3
   have KB := vback_calls Q8.out.st HFP.out HK8.out h0 x se (by rw [HM.out]; have := HF.out.ops; omega)
   have x0 : w8.cell? ⟨w4.heap.size, 0, none⟩ = some (.int .i64 x.f0) := (blk_cell QXZ.out 0).trans rfl
   have x1 : w8.cell? ⟨w4.heap.size, 1, none⟩ = some (.bool x.f1) := (blk_cell QXZ.out 1).trans rfl
   have x2 : w8.cell? ⟨w4.heap.size, 2, none⟩ = some (.int .i64 x.f2) := (blk_cell QXZ.out 2).trans rfl
   go_wp2_with fail
   refine KB.mono ?_
   rintro e w9 ⟨rfl, S9, q9⟩
   have Q9 := Aside0.mk q9
   clear KB q9
   go_wp2_with fail
   go_ret
   rw [HR3.out, ← HM.out]
   exact ⟨rfl, S9, (((Q46.out.ahead B3.out).below BZ.out).trans Q8.out).trans Q9.out⟩
 have g4 : (x.f0 == 5) = true := beq_iff_eq.mpr hx5
 obtain ⟨b, hb⟩ : ∃ b, b = valM X.l0 ⟨5, false, x.f2⟩ y := ⟨_, rfl⟩
 have HB := Aside0.mk hb
 have HX5 := Aside0.mk hx5
 have KR := vref_calls false x.f2 w6
 clear hb hx5
 refine start_ (n := 16) (S := fun w' => w'.cell? ⟨w4.heap.size, 0, none⟩ = some (.int .i64 x.f0) ∧ w'.cell? ⟨w4.heap.size, 2, none⟩ = some (.int .i64 x.f2) ∧ w'.cell? ⟨kb, 0, none⟩ = some (.slice X.A0 X.l0.length X.c0) ∧ w'.cell? ⟨w5.heap.size, 0, none⟩ = some (.int .i64 y.f0) ∧ w'.cell? ⟨w5.heap.size, 1, none⟩ = some (.bool y.f1) ∧ w'.cell? ⟨w5.heap.size, 2, none⟩ = some (.int .i64 y.f2)) (ds := [13]) (bm_ 16 0) (by kernel_rfl) rfl rfl ⟨(by rw [hw6]; exact x0), (by rw [hw6]; exact x2), (by rw [hw6]; exact z0), (by rw [hw6]; exact y0), (by rw [hw6]; exact y1), (by rw [hw6]; exact y2)⟩ (fun hHeld => ?_)
 rw [hw6] at hHeld ⊢
 clear hw6 x0 x2 y0 y1 y2 z0
 refine pz_ 0 62 16 1 ?_
 refine tz_ 1 63 16 3 hHeld ?_
 refine pz_ 2 64 16 7 ?_
 refine pz_ 3 65 16 15 ?_
 refine pz_ 4 66 16 31 ?_
 refine pz_ 5 67 16 63 ?_
 refine pz_ 6 68 16 127 ?_
 refine pz_ 7 69 16 255 ?_
 refine pz_ 9 71 16 767 ?_
 refine tz_ 8 70 16 1023 hHeld ?_
 refine tz_ 10 72 16 2047 hHeld ?_
 refine tz_ 12 74 16 6143 hHeld ?_
 refine oz_ 11 73 16 8191 fun K hK => ?_
 refine gz_ Tryz.func77 #[.bool false, .int .i64 x.f2] ?_
 with_reducible refine (KR).mono ?_
 rintro e w7 ⟨rfl, hb7⟩
 have B7 := Aside0.mk hb7
 clear hb7 KR
 refine ⟨_, rfl, ?_⟩
 refine hK.out _ _ ⟨B7.out.kp hHeld.1, B7.out.kp hHeld.2.1, B7.out.kp hHeld.2.2.1, B7.out.kp hHeld.2.2.2.1, B7.out.kp hHeld.2.2.2.2.1, B7.out.kp hHeld.2.2.2.2.2⟩ (fun hHeld => ?_)
 clear hK K
 refine nz_ ?_
 refine lz_ 13 75 16 16383 fun K hK => ?_
 have KV := subVal_calls HG.out (HG.out.la ((HK6.out.below B7.out).lent k132_heap HX.out.xin.h0 HX.out.xin.r0)) (H6.out.below B7.out).tab ⟨5, false, x.f2⟩ y
 rw [← HB.out] at KV
 refine gz_ Tryz.func119 #[.slice X.A0 X.l0.length X.c0, .agg #[.int .i64 5, .bool false, .int .i64 x.f2], .agg #[.int .i64 y.f0, .bool y.f1, .int .i64 y.f2]] ?_
 with_reducible refine (KV).mono ?_
 rintro e wz ⟨rfl, hbz⟩
 have BZ := Aside0.mk (B7.out.trans (hbz.mono B7.out.size))
 clear hbz KV
 refine ⟨_, rfl, ?_⟩
 refine hK.out _ _ ?_
 clear hK K
 refine nz_ ?_
 refine pz_ 14 76 16 32767 ?_
 refine pz_ 15 77 16 65535 ?_
 refine dz_ ?_
 clear g4
 cases b with
 | true =>
  have HR4 : Aside0 (rr = if se ≠ 0 then (se, backM kp k.ops.length x) else (0, ks)) := ⟨by rw [HR2.out, if_neg (fun h_ => by rw [← HB.out] at h_; exact absurd h_.2 (by decide))]⟩
  clear HR2
  have LZ := Aside0.mk ((LK.take (show LK k39 (fun y => S4 y ∨ D y) w6 (.slice (some ad) l.length c) l by have h_ := L6.out; rw [HN.out.1] at h_; exact h_) m (by have := HN.out.2; omega)).below BZ.out)
  have KS := vswap_calls (A1 := some ad) (A2 := some ad) (c1 := c) (c2 := c) (l1 := l.take m) (l2 := l.take m) (H6.out.below BZ.out) HFP.out (by have h_ := LZ.out; rw [show (l.take m).length = m by rw [List.length_take]; have := HN.out.2; omega]; exact h_) (by have h_ := LZ.out; rw [show (l.take m).length = m by rw [List.length_take]; have := HN.out.2; omega]; exact h_) (by rw [List.length_take]; have := MB.out; omega) (by rw [List.length_take]; have := MB.out; omega)
  rw [show (l.take m).length = m by rw [List.length_take]; have := HN.out.2; omega, ← HLD.out, HSW.out] at KS
  have z9 : wz.cell? ⟨kb, 9, none⟩ = some (.pointer (some ⟨g, 0, none⟩)) := (HK6.out.below BZ.out).pc
  have HE3 : Aside0 (se = 0 ∨ se ≠ 0) := ⟨Decidable.em _⟩
  unfold SOut at KS
  go_wp2_with fail
  refine KS.mono ?_
  rintro e w8 ⟨rfl, S8, q8⟩
  have Q8 := Aside0.mk q8
  have QXZ := Aside0.mk (q8.chg.blk (blk_below QX.out BZ.out) (fun e => by have := SL.out _ (.inl e); omega))
  have HK8 := Aside0.mk ((HK6.out.below BZ.out).kst q8)
  clear KS q8 z9
  dsimp only
  rcases HE3.out with he3 | he3
  ·subst he3
   have HR3 : Aside0 (rr = (0, ks)) := ⟨by rw [HR4.out, if_neg (by simp)]⟩
   clear HR4 HE3
   go_wp2_with fail
   go_ret
   rw [HR3.out]
   exact ⟨rfl, S8, (Q46.out.ahead B3.out).below BZ.out |>.trans Q8.out⟩
  ·have HR3 : Aside0 (rr = (se, backM kp k.ops.length x)) := ⟨by rw [HR4.out, if_pos he3]⟩
   have g6 : (se == 0) = false := beq_eq_false_iff_ne.mpr he3
   have g7 : (se != 0) = true := bne_iff_ne.mpr he3
   have hkp : ks = kp := by have h_ := swapM_bad (k := kp) (f := f) (l1 := l.dropLast) (l2 := l.dropLast) (by rw [HSW.out]; exact he3); rw [HSW.out] at h_; exact h_
   subst hkp
   clear HR4 HE3 he3
   have KB := vback_calls Q8.out.st HFP.out HK8.out h0 x se (by rw [HM.out]; have := HF.out.ops; omega)
   have x0 : w8.cell? ⟨w4.heap.size, 0, none⟩ = some (.int .i64 x.f0) := (blk_cell QXZ.out 0).trans rfl
   have x1 : w8.cell? ⟨w4.heap.size, 1, none⟩ = some (.bool x.f1) := (blk_cell QXZ.out 1).trans rfl
   have x2 : w8.cell? ⟨w4.heap.size, 2, none⟩ = some (.int .i64 x.f2) := (blk_cell QXZ.out 2).trans rfl
   go_wp2_with fail
   refine KB.mono ?_
   rintro e w9 ⟨rfl, S9, q9⟩
   have Q9 := Aside0.mk q9
   clear KB q9
   go_wp2_with fail
   go_ret
   rw [HR3.out, ← HM.out]
   exact ⟨rfl, S9, (((Q46.out.ahead B3.out).below BZ.out).trans Q8.out).trans Q9.out⟩
 | false =>
  have HR3 : Aside0 (rr = (131, backM kp k.ops.length x)) := ⟨by rw [HR2.out, if_pos ⟨HX5.out, HB.out.symm⟩]⟩
  have QXZ := Aside0.mk (blk_below QX.out BZ.out)
  clear HR2
  have KB := vback_calls (H6.out.below BZ.out) HFP.out (HK6.out.below BZ.out) h0 x 131 (by rw [HM.out]; have := HF.out.ops; omega)
  have x0 : wz.cell? ⟨w4.heap.size, 0, none⟩ = some (.int .i64 x.f0) := (blk_cell QXZ.out 0).trans rfl
  have x1 : wz.cell? ⟨w4.heap.size, 1, none⟩ = some (.bool x.f1) := (blk_cell QXZ.out 1).trans rfl
  have x2 : wz.cell? ⟨w4.heap.size, 2, none⟩ = some (.int .i64 x.f2) := (blk_cell QXZ.out 2).trans rfl
  go_wp2_with fail
  refine KB.mono ?_
  rintro e w9 ⟨rfl, S9, q9⟩
  have Q9 := Aside0.mk q9
  clear KB q9
  go_wp2_with fail
  go_ret
  rw [HR3.out, ← HM.out]
  exact ⟨rfl, S9, ((Q46.out.ahead B3.out).below BZ.out).trans Q9.out⟩
end
/-- A row of the call's own at r: its elements vs. -/
def RW (W : World) (r c : Nat) (vs : List Value) : Prop := W.ownsRow 0 27 1 (.slice (some ⟨r, 0, none⟩) vs.length c) vs.length vs
section
variable {W W' : World} {r c : Nat} {vs : List Value}
theorem RW.blk (h : RW W r c vs) : ∃ cur, W.heap[r]? = some (.cells cur 27 (0, 0)) ∧ vs.length ≤ c ∧ cur.toList.take vs.length = vs ∧ c ≤ maxLen ∧ cur.size = c := by
 rcases h.2 with ⟨e, _⟩ | ⟨g, cap, cur, e, _, hh, hn, hm, hc, ht⟩
 ·cases e
 ·cases e
  rw [Nat.mul_one] at hc ht
  exact ⟨cur, hh, hn, ht, hm, hc⟩
theorem RW.mk {cur : Array Value} (hh : W.heap[r]? = some (.cells cur 27 (0, 0))) (hn : vs.length ≤ c) (ht : cur.toList.take vs.length = vs) (hm : c ≤ maxLen) (hc : cur.size = c) : RW W r c vs :=
 ⟨(Nat.mul_one _).symm, .inr ⟨r, c, cur, rfl, Nat.zero_le _, hh, hn, hm, by rw [hc, Nat.mul_one], by rw [Nat.mul_one]; exact ht⟩⟩
theorem RW.same (h : RW W r c vs) (hb : W'.heap[r]? = W.heap[r]?) : RW W' r c vs := by
 obtain ⟨cur, hh, hn, ht, hm, hc⟩ := h.blk
 exact RW.mk (hb.trans hh) hn ht hm hc
theorem RW.lt (h : RW W r c vs) : r < W.heap.size := by
 obtain ⟨cur, hh, _⟩ := h.blk
 exact blk_lt hh
theorem RW.cell (h : RW W r c vs) {j : Nat} {u : Value} (hj : vs[j]? = some u) : W.cell? ⟨r, j, none⟩ = some u := by
 obtain ⟨cur, hh, hn, ht, hm, hc⟩ := h.blk
 rw [blk_cell hh j, ← Array.getElem?_toList, ← hj]
 conv => rhs; rw [← ht]
 rw [List.getElem?_take, if_pos (List.getElem?_eq_some_iff.1 hj).1]
theorem RW.cut {u : Value} (h : RW W r c (vs ++ [u])) : RW W r c vs := by
 obtain ⟨cur, hh, hn, ht, hm, hc⟩ := h.blk
 rw [List.length_append] at hn ht
 refine RW.mk hh (by omega) ?_ hm hc
 have := congrArg (List.take vs.length) ht
 rw [List.take_take, List.take_left, Nat.min_eq_left (by omega)] at this
 exact this
theorem info27 : (Tryz.prog.info? 27).map (fun i => (i.zero, i.size, i.bytes)) = some (some (.slice none 0 0), 1, 24) := by kernel_rfl
/-- Appending one list to the row: the row as it was stays. -/
theorem tab_append {ops : Array Oper} {rest : List Oper} {o : Oper} {a : Act} {Q : Exit → Act → World → Prop} (hgd : o.guard = none) (s x : Operand) (hop : o.op = .call { callee := .builtin .append, args := #[s, x], argTypes := #[31, 31] })
  (h : RW W r c vs) (hs : a.eval s = .slice (some ⟨r, 0, none⟩) vs.length c) (u : Value) (hx : a.eval x = .slice (some ⟨W.heap.size, 0, none⟩) 1 1) (h1 : u.oneCell' = true) (hl : vs.length ≤ 1048577)
  (hK : ∀ r' c' w1, RW w1 r' c' (vs ++ [u]) → RW w1 r c vs → (r' = r ∨ W.heap.size ≤ r') → Chg (fun k => k = r) W w1 → wpList Tryz.prog ops Q rest (a.put o.dst (.slice (some ⟨r', 0, none⟩) (vs.length + 1) c')) w1) :
  wpList Tryz.prog ops Q (o :: rest) a (W.alloc (.cells #[u] 27)) := by
 have hb : Below W.heap.size W (W.alloc (.cells #[u] 27)) := bz_
 obtain ⟨i, hi, hz⟩ := Option.map_eq_some_iff.1 info27
 simp only [Prod.mk.injEq] at hz
 obtain ⟨z1, z2, z3⟩ := hz
 have h0 : RW (W.alloc (.cells #[u] 27)) r c vs := h.same (hb.block r h.lt)
 have hnew : ∀ (j : Nat) v, [u][j]? = some v → (W.alloc (.cells #[u] 27)).cell? ((⟨W.heap.size, 0, none⟩ : Addr).add j) = some v := by
  intro j v hv
  have hj : j = 0 := by have := (List.getElem?_eq_some_iff.1 hv).1; simp at this; omega
  subst hj
  rw [Addr.add_lit]
  exact (blk_cell (blk_new W (.cells #[u] 27)) 0).trans hv
 have e1 : (vs ++ [u]).length = vs.length + 1 := by simp
 refine wpList_plain hgd fun K hKK => ?_
 by_cases hfit : vs.length + 1 ≤ c
 ·obtain ⟨w', hr, r1, r2⟩ := run_append_fits (P := Tryz.prog) (w := W.alloc (.cells #[u] 27)) 0 31 o.type 27 i 1 Tryz.underlying31 hi z2 r vs.length c vs h0 ⟨W.heap.size, 0, none⟩ 1 1 [u] rfl hnew (by simp [h1]) hfit
  have hR : RW w' r c (vs ++ [u]) := by unfold RW; rw [e1]; exact r1
  unfold Oper.wp
  simp [execOp, hop, resolve, invoke, builtin, hs, hx, hr, Result.andThen]
  exact hKK _ _ (hK r c w' hR hR.cut (.inl rfl) ((Chg.of_below hb (fun k => k = r)).trans (Chg.of_grown r2) (fun _ e => .inl e) (fun x e => .inl (by injection e with e; exact e.symm))))
 ·obtain ⟨cur, hh, hn, ht, hm, hc⟩ := h0.blk
  obtain ⟨v', w', hr, r1, r2⟩ := run_append_arg_grows (P := Tryz.prog) (W.alloc (.cells #[u] 27)) 31 o.type 27 i (.slice none 0 0) 1 24 Tryz.underlying31 hi z1 z2 z3 rfl (by decide) ⟨r, 0, none⟩ vs.length c vs (Nat.mul_one _).symm (fun j v hj => by rw [Addr.add_lit, Nat.zero_add]; exact h0.cell hj) ⟨W.heap.size, 0, none⟩ 1 1 [u] rfl hnew (by omega) (by unfold maxLen; omega) (by omega)
  obtain ⟨r', c', rfl, hb2⟩ : ∃ r' c', v' = .slice (some ⟨r', 0, none⟩) (vs.length + 1) c' ∧ (W.alloc (.cells #[u] 27)).heap.size ≤ r' := by
   rcases r1.2 with ⟨_, e⟩ | ⟨g, cap, cur, e, hb2, _⟩
   ·omega
   ·exact ⟨g, cap, e, hb2⟩
  have hR : RW w' r' c' (vs ++ [u]) := by unfold RW; rw [e1]; exact own_weaken r1 (Nat.zero_le _)
  have c1 := (Chg.of_below hb (fun _ => False)).trans (K := fun k => k = r) (chg_of_grown (ok := fun _ => False) r2 (fun k hk => by cases hk)) (fun _ e => e.elim) (fun _ e => e.elim)
  have hsame : w'.heap[r]? = W.heap[r]? := (r2.block r (Nat.lt_of_lt_of_le h.lt hb.size) (by simp)).trans (hb.block r h.lt)
  rw [World.size_alloc] at hb2
  unfold Oper.wp
  simp [execOp, hop, resolve, invoke, builtin, hs, hx, hr, Result.andThen]
  exact hKK _ _ (hK r' c' w' hR (h.same hsame) (.inr (by omega)) c1)
end
/-- Appending one element to a full list, in a region that draws: a list in new memory. -/
theorem full_append_step {ops : Array Oper} {o : Oper} {a : Act} {Q : Exit → Act → World → Prop} {Kc : Act → World → Prop} {W : World} {F : Nat → Prop} (hw : Region.wanted o (yielded ops a.tmps) = true) (s x : Operand)
  (hop : o.op = .call { callee := .builtin .append, args := #[s, x], argTypes := #[27, 27] }) {A : Option Addr} {n : Nat} {l : List S39} (hl : LK k39 F W (.slice A n n) l) (hs : a.eval s = .slice A n n) (y : S39) (hx : a.eval x = .slice (some ⟨W.heap.size, 0, none⟩) 1 1) (hlen : n ≤ 1048576) (hF : ∀ k, F k → k < W.heap.size)
  (hK : ∀ A' c' w1, LK k39 F w1 (.slice A' (l.length + 1) c') (l ++ [y]) → Below W.heap.size W w1 → Kc (a.put o.dst (.slice A' (l.length + 1) c')) w1) :
  if Region.wanted o (yielded ops a.tmps) = true then Oper.wp Tryz.prog o a (W.alloc (.cells #[.int .i64 y.f0, .bool y.f1, .int .i64 y.f2] 39)) Kc Q else Kc (a.put o.dst undef) (W.alloc (.cells #[.int .i64 y.f0, .bool y.f1, .int .i64 y.f2] 39)) := by
 have hb : Below W.heap.size W (W.alloc (.cells #[.int .i64 y.f0, .bool y.f1, .int .i64 y.f2] 39)) := bz_
 have hl2 := hl.below hb
 obtain ⟨hn, _⟩ := hl2.reads
 subst hn
 have hC := hl2.reads.2.2
 obtain ⟨i, hi, hz⟩ := Option.map_eq_some_iff.1 info39
 simp only [Prod.mk.injEq] at hz
 obtain ⟨z1, z2, z3⟩ := hz
 have hnew : ∀ (j : Nat) v, [Value.int .i64 y.f0, .bool y.f1, .int .i64 y.f2][j]? = some v → (W.alloc (.cells #[.int .i64 y.f0, .bool y.f1, .int .i64 y.f2] 39)).cell? ((⟨W.heap.size, 0, none⟩ : Addr).add j) = some v := by
  intro j v hv
  rw [Addr.add_lit, Nat.zero_add]
  have h4 := blk_cell (blk_new W (.cells #[.int .i64 y.f0, .bool y.f1, .int .i64 y.f2] 39)) j
  rw [h4, List.getElem?_toArray]
  exact hv
 have e1 : (l ++ [y]).length = l.length + 1 := by simp
 have fin : ∀ v' w' inner, Reps (k39.K (W.alloc (.cells #[.int .i64 y.f0, .bool y.f1, .int .i64 y.f2] 39))) 3 l inner → w'.ownsRow (W.alloc (.cells #[.int .i64 y.f0, .bool y.f1, .int .i64 y.f2] 39)).heap.size 39 3 v' (l.length + 1) (inner ++ [.int .i64 y.f0, .bool y.f1, .int .i64 y.f2]) → (W.alloc (.cells #[.int .i64 y.f0, .bool y.f1, .int .i64 y.f2] 39)).grownBy w' none → Kc (a.put o.dst v') w' := by
  intro v' w' inner hR r1 r2
  have hown : Kd.R k39 39 w' (W.alloc (.cells #[.int .i64 y.f0, .bool y.f1, .int .i64 y.f2] 39)).heap.size (fun _ => True) v' (l ++ [y]) := ⟨fun _ _ => trivial, inner ++ [.int .i64 y.f0, .bool y.f1, .int .i64 y.f2], by rw [e1]; exact r1, (hR.imp_ (fun x cs hk => by rw [k39_open hk]; exact k39_mkM _ _ _ x)).snoc (k39_mkM _ _ _ y) rfl⟩
  obtain ⟨A', c', ev⟩ := Kd.R_slice hown
  rw [e1] at ev
  subst ev
  have b2 : Below W.heap.size W w' := ⟨r2.os.trans hb.os, r2.tape.trans hb.tape, r2.output.trans hb.output, Nat.le_trans hb.size r2.size, fun k hk => (r2.block k (Nat.lt_of_lt_of_le hk hb.size) (by simp)).trans (hb.block k hk)⟩
  exact hK A' c' w' (LK.fresh hown (fun k e => Nat.lt_of_lt_of_le (hF k e) hb.size)) b2
 cases A with
 | some ad =>
  obtain ⟨inner, hR, hcell⟩ := ReadsRow.inner_ hC
  exact grow_append_step (W := W.alloc (.cells #[.int .i64 y.f0, .bool y.f1, .int .i64 y.f2] 39)) hw s x 27 39 i (.agg #[.int .i64 0, .bool false, .int .i64 0]) 3 24 hop Tryz.underlying27 hi z1 z2 z3 rfl (by decide) ad l.length l.length inner hs hR.1 hcell ⟨W.heap.size, 0, none⟩ [.int .i64 y.f0, .bool y.f1, .int .i64 y.f2] hx rfl hnew (by omega) (by unfold maxLen; omega) (by omega) (fun v' w' r1 r2 => fin v' w' inner hR r1 r2)
 | none =>
  have h0 : l = [] := by
   cases l with
   | nil => rfl
   | cons x l =>
    obtain ⟨ad, e, _⟩ := hC.2.2 (by simp)
    cases e
  subst h0
  rw [if_pos hw]
  obtain ⟨v', w', hrun, r1, r2, _⟩ := run_append_own (P := Tryz.prog) (W.alloc (.cells #[.int .i64 y.f0, .bool y.f1, .int .i64 y.f2] 39)) (W.alloc (.cells #[.int .i64 y.f0, .bool y.f1, .int .i64 y.f2] 39)).heap.size 27 o.type 39 i (.agg #[.int .i64 0, .bool false, .int .i64 0]) 3 24 Tryz.underlying27 hi z1 z2 z3 rfl (by decide) (.slice none 0 0) 0 [] (World.ownsRow_nil _ _ 39 3) ⟨W.heap.size, 0, none⟩ 1 1 [.int .i64 y.f0, .bool y.f1, .int .i64 y.f2] rfl hnew (by simp [Value.oneCell']) (by unfold maxLen; omega) (by omega) (Nat.le_refl _)
  unfold Oper.wp
  simp only [List.length_nil] at hs
  simp [execOp, hop, resolve, invoke, builtin, hs, hx, hrun, Result.andThen]
  exact fin v' w' [] (Reps.none _ _) r1 r2
theorem labsM_ok {fs : List Fr} {ns : List Int} (h : ∀ n ∈ ns, (labM fs n.toNat).1 = 0) : labsM fs ns = (0, ns.map fun n => (labM fs n.toNat).2) := by
 induction ns with
 | nil => rfl
 | cons n ns ih =>
  unfold labsM
  rw [if_neg (by simp [h n (List.mem_cons_self ..)]), ih (fun m hm => h m (List.mem_cons_of_mem _ hm)), if_neg (by simp)]
  rfl
theorem labsM_no {fs : List Fr} {ns : List Int} {j : Nat} {n : Int} (hj : ns[j]? = some n) (h : ∀ m ∈ ns.take j, (labM fs m.toNat).1 = 0) (hn : (labM fs n.toNat).1 ≠ 0) : (labsM fs ns).1 = (labM fs n.toNat).1 := by
 induction ns generalizing j with
 | nil => simp at hj
 | cons x ns ih =>
  unfold labsM
  cases j with
  | zero =>
   simp only [List.getElem?_cons_zero, Option.some.injEq] at hj
   subst hj
   rw [if_pos hn]
  | succ j =>
   simp only [List.getElem?_cons_succ] at hj
   rw [List.take_succ_cons] at h
   have h1 := ih hj (fun m hm => h m (List.mem_cons_of_mem _ hm))
   rw [if_neg (by simp [h x (List.mem_cons_self ..)]), if_pos (by rw [h1]; exact hn)]
   exact h1
theorem tryM_ok {k : Chk} {f : Fr} {ls : List (List S39)} (h : ∀ l ∈ ls, (popsM k.l f.height f.dead (l ++ [i32T]) k.ops).1 = 0) : tryM k f ls = (0, unrM k f) := by
 induction ls with
 | nil => rfl
 | cons l ls ih =>
  unfold tryM
  rw [if_pos (h l (List.mem_cons_self ..))]
  exact ih (fun m hm => h m (List.mem_cons_of_mem _ hm))
theorem tryM_no {k : Chk} {f : Fr} {ls : List (List S39)} {j : Nat} {l : List S39} (hj : ls[j]? = some l) (h : ∀ m ∈ ls.take j, (popsM k.l f.height f.dead (m ++ [i32T]) k.ops).1 = 0) (hn : (popsM k.l f.height f.dead (l ++ [i32T]) k.ops).1 ≠ 0) : tryM k f ls = ((popsM k.l f.height f.dead (l ++ [i32T]) k.ops).1, k) := by
 induction ls generalizing j with
 | nil => simp at hj
 | cons x ls ih =>
  unfold tryM
  cases j with
  | zero =>
   simp only [List.getElem?_cons_zero, Option.some.injEq] at hj
   subst hj
   rw [if_neg hn]
  | succ j =>
   simp only [List.getElem?_cons_succ] at hj
   rw [List.take_succ_cons] at h
   rw [if_pos (h x (List.mem_cons_self ..))]
   exact ih hj (fun m hm => h m (List.mem_cons_of_mem _ hm))
section
variable {w1 w W W' : World} {D D' S S' N D0 S0 : Nat → Prop} {kb g : Nat} {X : CX} {I : IX} {k : Chk} {f : Fr}
theorem St.grow (h : St D S g k W) (c : Chg N W W') (hN : ∀ x, N x → D x ∨ W.heap.size ≤ x) (hD : ∀ x, D x → D' x) (hD' : ∀ x, D' x → D x ∨ (W.heap.size ≤ x ∧ x < W'.heap.size)) : St D' S g k W' := by
 obtain ⟨v1, v2, v3, v4, ao, co, af, cf, h⟩ := h
 have nS : ∀ x, S x → ¬ N x := fun x hx hn => (hN x hn).elim (h.apart x hx) (fun l => by have := h.lt x (.inl hx); omega)
 have hN' : ∀ x, N x → (S x ∨ D x) ∨ W.heap.size ≤ x := fun x e => (hN x e).imp .inr id
 have hS : ∀ x, S x ∨ D' x → (S x ∨ D x) ∨ W.heap.size ≤ x := fun x e => e.elim (fun e => .inl (.inl e)) (fun e => (hD' x e).elim (fun e => .inl (.inr e)) (fun e => .inr e.1))
 refine ⟨v1, v2, v3, v4, ao, co, af, cf, c.blk h.box (nS g h.own), h.lst.to c hN' hS, h.loc.to c hN' hS, h.set.to c hN' hS, h.res.to c hN' hS, h.ops.step (fun x hx hl => c.same x hl (nS x hx)), ?_, h.own, fun x e => ?_, fun x e => ?_, ?_⟩
 ·refine ((h.frs.mono (sh' := fun x => ¬ (S x ∨ D x) ∧ x < W.heap.size) (fun _ e => e) (fun x e l => ⟨e, l⟩)).step (fun x hx hl => c.same x hl ?_)).mono (fun _ e => e) (fun x e _ e2 => (hS x e2).elim e.1 (fun l => by have := e.2; omega))
  rcases hx with hx | hx
  ·exact nS x hx
  ·exact fun hn => (hN' x hn).elim hx.1 (fun l => by have := hx.2; omega)
 ·exact e.elim (fun e => Nat.lt_of_lt_of_le (h.lt x (.inl e)) c.size) (fun e => (hD' x e).elim (fun e => Nat.lt_of_lt_of_le (h.lt x (.inr e)) c.size) (fun e => e.2))
 ·exact fun e2 => (hD' x e2).elim (h.apart x e) (fun e3 => by have := h.lt x (.inl e); omega)
 ·obtain ⟨B, b1, b2, b3⟩ := h.tab
  exact ⟨B, fun x e => (hS x e).elim (b1 x) (fun l => by omega), Nat.le_trans b2 c.size, b3.on (below_chg c b2 (fun x e => (hN' x e).elim (b1 x) (fun l => by omega)))⟩
theorem KI.grow (h : KI w1 D S kb g X I W) (c : Chg N W W') (hN : ∀ x, N x → w1.heap.size ≤ x ∧ x ≠ kb) (hD' : ∀ x, D' x → D x ∨ W.heap.size ≤ x) : KI w1 D' S kb g X I W' :=
 ⟨c.blk h.box (fun e => (hN kb e).2 rfl), below_chg ((Chg.of_below h.bel (fun _ => False)).trans (K := N) c (fun _ e => e.elim) (fun x e => .inl e)) (Nat.le_refl _) (fun x e => (hN x e).1), fun x e => e.elim (fun e => h.nw x (.inl e)) (fun e => (hD' x e).elim (fun e => h.nw x (.inr e)) (fun l => Nat.le_trans h.bel.size l)), h.nS⟩
theorem Kst.less {S1 : Nat → Prop} {k1 : Chk} (q : Kst D' S g W k1 S1 W') (hD : ∀ x, D x → D' x) : Kst D S g W k1 S1 W' := ⟨q.sub, q.grow, q.st.less hD, q.chg⟩
/-- A list that is full, as it stands in the row. -/
def tv (t : Option Addr × List S39) : Value := .slice t.1 t.2.length t.2.length
/-- In brTable: the checker is k, the row's lists are ts, the last label's is la. -/
structure BS (w1 : World) (D0 S0 : Nat → Prop) (kb g : Nat) (X : CX) (I : IX) (k : Chk) (w : World) (p : Nat) (la : Option Addr × List S39) (D S : Nat → Prop) (r c : Nat) (ts : List (Option Addr × List S39)) (W : World) : Prop where
 st : St D S g k W
 ki : KI w1 D S kb g X I W
 hD : ∀ x, D0 x → D x
 kst : Kst D0 S0 g w k S W
 row : RW W r c (ts.map tv)
 rD : D r
 rn : w.heap.size ≤ r
 ls : ∀ t ∈ ts, LK k39 (fun x => S x ∨ D x) W (tv t) t.2
 la : LK k39 (fun x => S x ∨ D x) W (tv la) la.2
 i32 : W.heap[p]? = some (.cells #[.int .i64 1, .bool false, .int .i64 0] 39 (0, 0))
 pS : ¬ S p
 kbw : kb < w.heap.size
 ww : w1.heap.size ≤ w.heap.size
variable {p r c : Nat} {la : Option Addr × List S39} {ts : List (Option Addr × List S39)}
theorem BS.nr (h : BS w1 D0 S0 kb g X I k w p la D S r c ts W) : ¬ S r := fun e => by
 obtain ⟨_, _, _, _, _, _, _, _, hs⟩ := h.st
 exact hs.apart r e h.rD
theorem BS.below (h : BS w1 D0 S0 kb g X I k w p la D S r c ts W) (hb : Below W.heap.size W W') : BS w1 D0 S0 kb g X I k w p la D S r c ts W' :=
 ⟨h.st.below hb, h.ki.below hb, h.hD, h.kst.below hb, h.row.same (hb.block r h.row.lt), h.rD, h.rn, fun t ht => (h.ls t ht).below hb, h.la.below hb, blk_below h.i32 hb, h.pS, h.kbw, h.ww⟩
theorem BS.next (h : BS w1 D0 S0 kb g X I k w p la D S r c ts W) (q : Kst D S g W k S' W') : BS w1 D0 S0 kb g X I k w p la D S' r c ts W' :=
 ⟨q.st, h.ki.kst q, h.hD, h.kst.trans (q.less h.hD), h.row.same (q.chg.same r h.row.lt h.nr), h.rD, h.rn, fun t ht => (h.ls t ht).kst q, h.la.kst q, q.chg.blk h.i32 h.pS, fun e => (q.grow p e).elim h.pS (fun l => by have := blk_lt h.i32; omega), h.kbw, h.ww⟩
theorem BS.pr (h : BS w1 D0 S0 kb g X I k w p la D S r c ts W) : p ≠ r := fun e => by
 obtain ⟨cur, hh, _⟩ := h.row.blk
 rw [← e, h.i32] at hh
 injection hh with hh
 injection hh with _ hh
 exact absurd hh (by decide)
/-- The row was appended to. -/
theorem BS.more (h : BS w1 D0 S0 kb g X I k w p la D S r c ts W) (hc : Chg (fun x => x = r) W W') (hD : ∀ x, D x → D' x) (hD' : ∀ x, D' x → D x ∨ (W.heap.size ≤ x ∧ x < W'.heap.size)) {r' c' : Nat} {ts' : List (Option Addr × List S39)} (hrow : RW W' r' c' (ts'.map tv)) (hr : r' = r ∨ W.heap.size ≤ r') (hrD : D' r') (hls : ∀ t ∈ ts', t ∈ ts ∨ LK k39 (fun x => S x ∨ D x) W (tv t) t.2) : BS w1 D0 S0 kb g X I k w p la D' S r' c' ts' W' := by
 have hN : ∀ x, x = r → D x ∨ W.heap.size ≤ x := fun x e => .inl (by rw [e]; exact h.rD)
 have st := h.st.grow hc hN hD hD'
 have lk : ∀ {v : Value} {l : List S39}, LK k39 (fun x => S x ∨ D x) W v l → LK k39 (fun x => S x ∨ D' x) W' v l := fun hl => hl.to hc (fun x e => .inl (.inr (by rw [e]; exact h.rD))) (fun x e => e.elim (fun e => .inl (.inl e)) (fun e => (hD' x e).elim (fun e => .inl (.inr e)) (fun e => .inr e.1)))
 refine ⟨st, h.ki.grow hc (fun x e => by rw [e]; exact ⟨Nat.le_trans h.ww h.rn, by have := h.rn; have := h.kbw; omega⟩) (fun x e => (hD' x e).imp id And.left), fun x e => hD x (h.hD x e), ⟨h.kst.sub, h.kst.grow, st.less (fun x e => hD x (h.hD x e)), h.kst.chg.trans hc (fun _ e => .inl e) (fun x e => .inr (by rw [e]; exact h.rn))⟩, hrow, hrD, ?_, fun t ht => (hls t ht).elim (fun ht => lk (h.ls t ht)) lk, lk h.la, hc.blk h.i32 h.pr, h.pS, h.kbw, h.ww⟩
 exact hr.elim (fun e => by rw [e]; exact h.rn) (fun l => Nat.le_trans h.kst.chg.size l)
theorem BS.push (h : BS w1 D0 S0 kb g X I k w p la D S r c ts W) {r' c' : Nat} {t : Option Addr × List S39} (hrow : RW W' r' c' (ts.map tv ++ [tv t])) (hr : r' = r ∨ W.heap.size ≤ r') (hc : Chg (fun x => x = r) W W') (ht : LK k39 (fun x => S x ∨ D x) W (tv t) t.2) : BS w1 D0 S0 kb g X I k w p la (fun x => D x ∨ x = r') S r' c' (ts ++ [t]) W' :=
 h.more hc (fun _ e => .inl e) (fun x e => e.elim .inl (fun e => hr.elim (fun e2 => .inl (by rw [e, e2]; exact h.rD)) (fun l => .inr ⟨by omega, by rw [e]; exact hrow.lt⟩))) (by rw [List.map_append]; exact hrow) hr (.inr rfl) (fun t' ht' => by
  rcases List.mem_append.1 ht' with e | e
  ·exact .inl e
  ·rw [List.mem_singleton] at e
   rw [e]
   exact .inr ht)
theorem BS.stay (h : BS w1 D0 S0 kb g X I k w p la D S r c ts W) (hrow : RW W' r c (ts.map tv)) (hc : Chg (fun x => x = r) W W') : BS w1 D0 S0 kb g X I k w p la D S r c ts W' :=
 h.more hc (fun _ e => e) (fun x e => .inl e) hrow (.inl rfl) h.rD (fun _ e => .inl e)
theorem BS.start (h : St D S g k w) (hk : KI w1 D S kb g X I w) (hb : Below w.heap.size w W) (hp : W.heap[w.heap.size]? = some (.cells #[.int .i64 1, .bool false, .int .i64 0] 39 (0, 0))) (hla : LK k39 (fun x => S x ∨ D x) W (tv la) la.2) : BS w1 D S kb g X I k w w.heap.size la (fun x => D x ∨ x = W.heap.size) S W.heap.size 0 [] (W.alloc (.cells #[] 27)) := by
 have b2 : Below W.heap.size W (W.alloc (.cells #[] 27)) := bz_
 have hq : (W.alloc (.cells #[] 27)).heap[W.heap.size]? = some (.cells #[] 27 (0, 0)) := blk_new W _
 have hki := (hk.below hb).grow (D' := fun x => D x ∨ x = W.heap.size) (Chg.of_below b2 (fun _ => False)) (fun _ e => e.elim) (fun x e => e.imp id (fun e => by rw [e]; exact Nat.le_refl _))
 exact ⟨(h.below hb).more b2 (Nat.le_refl _) (blk_lt hq), hki, fun _ e => .inl e, ((Kst.refl h).below hb).below b2, RW.mk hq (Nat.le_refl _) rfl (Nat.zero_le _) rfl, .inr rfl, hb.size, (fun t ht => by cases ht), hla.to (Chg.of_below b2 (fun _ => False)) (fun _ e => e.elim) (fun x e => e.elim (fun e => .inl (.inl e)) (fun e => e.elim (fun e => .inl (.inr e)) (fun e => .inr (by rw [e]; exact Nat.le_refl _)))), blk_below hp b2, fun e => by have := h.lt _ (.inl e); omega, blk_lt hk.box, hk.bel.size⟩
theorem Fit.labf (h : Fit k f) (hs : St D S g k w) (n : Nat) (hn : n ≤ 4294967295) : Calls Tryz.prog 78 #[.pointer (some ⟨g, 0, none⟩), .int .u32 n] w (LabFull (fun x => S x ∨ D x) (labM k.frames n) w) :=
 kLabel_full hs n hn (by have := h.frs; omega) (fun x hx => by have := h.ios x hx; omega)
end
/-- A list's rest. -/
theorem LK.drop {α : Type} {K : Kd α} {F : Nat → Prop} {w : World} {A : Option Addr} {n c : Nat} {xs : List α} (h : LK K F w (.slice A n c) xs) {m : Nat} (hm : m ≤ n) : LK K F w (.slice (if c = m then A else A.map (·.add (m * K.sz))) (n - m) (c - m)) (xs.drop m) := by
 obtain ⟨rfl, hc, _⟩ := h.reads
 have h1 : LK K F w (.slice (if c = m then A else A.map (·.add (m * K.sz))) (xs.drop m).length (c - m)) (xs.drop m) := LK.mk (by rw [List.length_drop]; omega) (Kd.F_cut h.F hm hc)
 rw [List.length_drop] at h1
 exact h1
/-- At the label: the error stands in its slot. -/
def JT (er : Int) (P : World → Prop) (a : Act) (W : World) : Prop := ∃ u : Nat → Value, a = { tmps := #[u 0, u 1, u 2, u 3, u 4, .int .i64 er, u 6, u 7, u 8, u 9, u 10, u 11, u 12, u 13, u 14, u 15, u 16, u 17, u 18, u 19, u 20, u 21, u 22, u 23, u 24, u 25, u 26, u 27, u 28, u 29, u 30, u 31, u 32, u 33, u 34, u 35, u 36, u 37, u 38, u 39, u 40, u 41, u 42, u 43, u 44, u 45, u 46, u 47, u 48, u 49, u 50, u 51, u 52, u 53, u 54, u 55, u 56, u 57, u 58, u 59, u 60, u 61, u 62, u 63, u 64, u 65, u 66, u 67, u 68, u 69, u 70, u 71, u 72, u 73, u 74, u 75, u 76, u 77, u 78, u 79, u 80, u 81, u 82, u 83, u 84, u 85, u 86, u 87, u 88, u 89, u 90, u 91, u 92, u 93, u 94, u 95, u 96, u 97, u 98, u 99, u 100, u 101, u 102, u 103, u 104, u 105, u 106, u 107, u 108, u 109, u 110, u 111, u 112, u 113, u 114, u 115, u 116, u 117, u 118, u 119], defers := [] } ∧ P W
theorem JT.mk {er : Int} {P : World → Prop} {W : World} (a : Act) (h : a = { tmps := #[a.tmps.getD 0 undef, a.tmps.getD 1 undef, a.tmps.getD 2 undef, a.tmps.getD 3 undef, a.tmps.getD 4 undef, .int .i64 er, a.tmps.getD 6 undef, a.tmps.getD 7 undef, a.tmps.getD 8 undef, a.tmps.getD 9 undef, a.tmps.getD 10 undef, a.tmps.getD 11 undef, a.tmps.getD 12 undef, a.tmps.getD 13 undef, a.tmps.getD 14 undef, a.tmps.getD 15 undef, a.tmps.getD 16 undef, a.tmps.getD 17 undef, a.tmps.getD 18 undef, a.tmps.getD 19 undef, a.tmps.getD 20 undef, a.tmps.getD 21 undef, a.tmps.getD 22 undef, a.tmps.getD 23 undef, a.tmps.getD 24 undef, a.tmps.getD 25 undef, a.tmps.getD 26 undef, a.tmps.getD 27 undef, a.tmps.getD 28 undef, a.tmps.getD 29 undef, a.tmps.getD 30 undef, a.tmps.getD 31 undef, a.tmps.getD 32 undef, a.tmps.getD 33 undef, a.tmps.getD 34 undef, a.tmps.getD 35 undef, a.tmps.getD 36 undef, a.tmps.getD 37 undef, a.tmps.getD 38 undef, a.tmps.getD 39 undef, a.tmps.getD 40 undef, a.tmps.getD 41 undef, a.tmps.getD 42 undef, a.tmps.getD 43 undef, a.tmps.getD 44 undef, a.tmps.getD 45 undef, a.tmps.getD 46 undef, a.tmps.getD 47 undef, a.tmps.getD 48 undef, a.tmps.getD 49 undef, a.tmps.getD 50 undef, a.tmps.getD 51 undef, a.tmps.getD 52 undef, a.tmps.getD 53 undef, a.tmps.getD 54 undef, a.tmps.getD 55 undef, a.tmps.getD 56 undef, a.tmps.getD 57 undef, a.tmps.getD 58 undef, a.tmps.getD 59 undef, a.tmps.getD 60 undef, a.tmps.getD 61 undef, a.tmps.getD 62 undef, a.tmps.getD 63 undef, a.tmps.getD 64 undef, a.tmps.getD 65 undef, a.tmps.getD 66 undef, a.tmps.getD 67 undef, a.tmps.getD 68 undef, a.tmps.getD 69 undef, a.tmps.getD 70 undef, a.tmps.getD 71 undef, a.tmps.getD 72 undef, a.tmps.getD 73 undef, a.tmps.getD 74 undef, a.tmps.getD 75 undef, a.tmps.getD 76 undef, a.tmps.getD 77 undef, a.tmps.getD 78 undef, a.tmps.getD 79 undef, a.tmps.getD 80 undef, a.tmps.getD 81 undef, a.tmps.getD 82 undef, a.tmps.getD 83 undef, a.tmps.getD 84 undef, a.tmps.getD 85 undef, a.tmps.getD 86 undef, a.tmps.getD 87 undef, a.tmps.getD 88 undef, a.tmps.getD 89 undef, a.tmps.getD 90 undef, a.tmps.getD 91 undef, a.tmps.getD 92 undef, a.tmps.getD 93 undef, a.tmps.getD 94 undef, a.tmps.getD 95 undef, a.tmps.getD 96 undef, a.tmps.getD 97 undef, a.tmps.getD 98 undef, a.tmps.getD 99 undef, a.tmps.getD 100 undef, a.tmps.getD 101 undef, a.tmps.getD 102 undef, a.tmps.getD 103 undef, a.tmps.getD 104 undef, a.tmps.getD 105 undef, a.tmps.getD 106 undef, a.tmps.getD 107 undef, a.tmps.getD 108 undef, a.tmps.getD 109 undef, a.tmps.getD 110 undef, a.tmps.getD 111 undef, a.tmps.getD 112 undef, a.tmps.getD 113 undef, a.tmps.getD 114 undef, a.tmps.getD 115 undef, a.tmps.getD 116 undef, a.tmps.getD 117 undef, a.tmps.getD 118 undef, a.tmps.getD 119 undef], defers := [] }) (hP : P W) : JT er P a W := ⟨fun i => a.tmps.getD i undef, h, hP⟩
section
variable {w1 w w' : World} {D S S' : Nat → Prop} {kb g : Nat} {X : CX} {I : IX} {k k' : Chk} {f : Fr}
set_option maxHeartbeats 16000000 in
theorem vBrTable_calls (h : St D S g k w) (hF : Fit k f) (hk : KI w1 D S kb g X I w) (hx : XK w1 X I) : Calls Tryz.prog 93 #[.pointer (some ⟨kb, 0, none⟩)] w (SOut D S g (brTableM k f I.x I.ls) w) := by
 obtain ⟨er, l, hr⟩ : ∃ er l, labM k.frames I.x = (er, l) := ⟨_, _, rfl⟩
 obtain ⟨le, ll, hls⟩ : ∃ le ll, labsM k.frames I.ls = (le, ll) := ⟨_, _, rfl⟩
 have hll := labM_len hF.ios I.x
 obtain ⟨rr, hrr⟩ : ∃ rr, rr = brTableM k f I.x I.ls := ⟨_, rfl⟩
 have HR : Aside0 (rr = if er ≠ 0 then (er, k) else if le ≠ 0 then (le, k) else if (ll ++ [l]).all (fun t => t.length == l.length) = false then (152, k) else tryM k f (ll ++ [l])) := ⟨by rw [hrr]; unfold brTableM; rw [hr, hls]⟩
 have HLS := Aside0.mk hls
 rw [← hrr]
 rw [hr] at hll
 have HRL := Aside0.mk hr
 have H := Aside0.mk h
 have HF := Aside0.mk hF
 have HK := Aside0.mk hk
 have HX := Aside0.mk hx
 have HL := Aside0.mk hll
 have HE : Aside0 (er = 0 ∨ er ≠ 0) := ⟨Decidable.em _⟩
 clear h hF hk hx hr hll hls hrr
 go_enter Tryz.func93, Tryz.ntmps93
 go_wp2_with fail
 refine wp_scope_jumps 0 (JT rr.1 (fun W1 => rr.2 = k ∧ ∃ S1, Kst D S g w k S1 W1)) (fun _ _ => 0) rfl ?_ ?_
 rotate_left
 ·intro a1 W1 hJ
  obtain ⟨u, rfl, hk2, S1, q1⟩ := hJ
  have Q1 := Aside0.mk (And.intro hk2 q1)
  clear hk2 q1
  obtain ⟨je, hje⟩ : ∃ je, je = rr.1 := ⟨_, rfl⟩
  rw [← hje]
  have HJE := Aside0.mk hje
  clear hje
  go_wp2_with fail
  rw [jump_ret]
  go_ret
  rw [HJE.out]
  exact ⟨rfl, S1, by rw [Q1.out.1]; exact Q1.out.2⟩
 have b0 : Below w.heap.size w (w.alloc (.cells #[.int .i64 1, .bool false, .int .i64 0] 39)).drew := (bz_).drew
 go_wp2_with fail
 obtain ⟨w2, hw2⟩ : ∃ w2, World.drew (w.alloc (.cells #[.int .i64 1, .bool false, .int .i64 0] 39)) = w2 := ⟨_, rfl⟩
 rw [hw2] at b0
 have q0 : w2.heap[w.heap.size]? = some (.cells #[.int .i64 1, .bool false, .int .i64 0] 39 (0, 0)) := by rw [← hw2]; exact blk_new w _
 have KL := HF.out.labf (H.out.below b0) I.x HX.out.x32
 rw [HRL.out] at KL
 have Q0 := Aside0.mk q0
 have B0 := Aside0.mk b0
 have hk2 := HK.out.below b0
 have z9 : w2.cell? ⟨kb, 9, none⟩ = some (.pointer (some ⟨g, 0, none⟩)) := (blk_cell hk2.box 9).trans rfl
 have z11 : w2.cell? ⟨kb, 11, none⟩ = some (.int .u32 I.x) := (blk_cell hk2.box 11).trans rfl
 clear b0 q0 hk2
 refine start_ (n := 15) (S := fun w' => w'.cell? ⟨kb, 9, none⟩ = some (.pointer (some ⟨g, 0, none⟩)) ∧ w'.cell? ⟨kb, 11, none⟩ = some (.int .u32 I.x)) (ds := []) (bm_ 15 0) (by kernel_rfl) rfl rfl ⟨(by rw [hw2]; exact z9), (by rw [hw2]; exact z11)⟩ (fun hHeld => ?_)
 rw [hw2] at hHeld ⊢
 clear hw2 z9 z11
 refine pz_ 0 18 15 1 ?_
 refine pz_ 1 19 15 3 ?_
 refine pz_ 2 20 15 7 ?_
 refine pz_ 4 22 15 23 ?_
 refine pz_ 5 23 15 55 ?_
 refine pz_ 6 24 15 119 ?_
 refine pz_ 7 25 15 247 ?_
 refine tz_ 3 21 15 255 hHeld ?_
 refine tz_ 8 26 15 511 hHeld ?_
 refine oz_ 9 27 15 1023 fun K hK => ?_
 refine gz_ Tryz.func78 #[.pointer (some ⟨g, 0, none⟩), .int .u32 I.x] ?_
 with_reducible refine (KL).mono ?_
 rintro e w3 ⟨A, rfl, hl, hb⟩
 have HL3 := Aside0.mk hl
 have B3 := Aside0.mk (B0.out.trans (hb.mono B0.out.size))
 have HB := Aside0.mk hb
 have Q3 := Aside0.mk (blk_below Q0.out hb)
 clear hl hb
 refine ⟨_, rfl, ?_⟩
 refine hK.out _ _ ⟨HB.out.kp hHeld.1, HB.out.kp hHeld.2⟩ (fun hHeld => ?_)
 clear hK K
 refine nz_ ?_
 refine pz_ 10 17 15 2047 ?_
 refine pz_ 11 28 15 4095 ?_
 refine pz_ 12 29 15 8191 ?_
 refine pz_ 13 4 15 16383 ?_
 refine pz_ 14 5 15 32767 ?_
 refine dz_ ?_
 clear KL
 dsimp only at HL3
 rcases HE.out with he | he
 rotate_left
 ·have HR2 : Aside0 (rr = (er, k)) := ⟨by rw [HR.out, if_pos he]⟩
  have g0 : (er == 0) = false := beq_eq_false_iff_ne.mpr he
  have g1 : (er != 0) = true := bne_iff_ne.mpr he
  clear he HR
  go_wp2_with fail
  rw [jump_ret]
  go_ret
  rw [HR2.out]
  exact ⟨rfl, S, (Kst.refl H.out).below B3.out⟩
 subst he
 have HR2 : Aside0 (rr = if le ≠ 0 then (le, k) else if (ll ++ [l]).all (fun t => t.length == l.length) = false then (152, k) else tryM k f (ll ++ [l])) := ⟨by rw [HR.out, if_neg (by simp)]⟩
 clear HE HR
 obtain ⟨m, hm⟩ : ∃ m, m = I.ls.length := ⟨_, rfl⟩
 have HM := Aside0.mk hm
 have hm1 : m ≤ 1048576 := by rw [hm]; exact HX.out.lb
 have b4 : Below w3.heap.size w3 (w3.alloc (.cells #[] 27)) := bz_
 have z24 : (w3.alloc (.cells #[] 27)).cell? ⟨kb, 24, none⟩ = some (.slice I.AL m I.cL) := by rw [hm]; exact (blk_cell ((HK.out.below B3.out).below b4).box 24).trans rfl
 clear hm
 have BS0 := Aside0.mk (BS.start (la := (A, l)) H.out HK.out B3.out Q3.out HL3.out)
 have AP := Aside0.mk (And.intro HX.out.lab HX.out.l32)
 go_wp2_with fail
 clear z24 b4
 go_loopw [40, 6] (fun i v W => ∃ (j r c : Nat) (ts : List (Option Addr × List S39)) (D' : Nat → Prop), i = .int .i64 j ∧ v = .slice (some ⟨r, 0, none⟩) j c ∧ j ≤ m ∧ ts.length = j ∧ ts.map Prod.snd = (I.ls.take j).map (fun x => (labM k.frames x.toNat).2) ∧ (∀ x ∈ I.ls.take j, (labM k.frames x.toNat).1 = 0) ∧ BS w1 D S kb g X I k w w.heap.size (A, l) D' S r c ts W) (fun i _ _ => m - (intOf i).toNat)
 case atStart => exact ⟨0, _, 0, [], _, rfl, rfl, Nat.zero_le _, rfl, rfl, fun x hx => by simp at hx, BS0.out⟩
 case round =>
  clear BS0
  obtain ⟨j, r, c, ts, D', rfl, rfl, hjm, htl, hts, hok, hbs⟩ := hrel
  have BSr := Aside0.mk hbs
  have TS := Aside0.mk (And.intro htl (And.intro hts hok))
  by_cases hlt : j < m
  ·obtain ⟨x, hx⟩ : ∃ x, I.ls[j]? = some x := ⟨_, List.getElem?_eq_getElem (by rw [← HM.out]; exact hlt)⟩
   obtain ⟨ad, eA, hc⟩ := int_at AP.out.1 hx
   have hx2 := AP.out.2 x (List.mem_of_getElem? hx)
   obtain ⟨xn, rfl⟩ := Int.eq_ofNat_of_zero_le hx2.1
   have yc : wr.cell? (ad.add j) = some (.int .u32 xn) := hbs.ki.bel.kp hc
   have KL := HF.out.labf hbs.st xn (by omega)
   obtain ⟨ej, lj, hrj⟩ : ∃ ej lj, labM k.frames xn = (ej, lj) := ⟨_, _, rfl⟩
   have HRJ := Aside0.mk hrj
   rw [hrj] at KL
   have z9 := hbs.ki.pc
   have HLT := Aside0.mk hlt
   have HXJ := Aside0.mk hx
   have hlt2 : (j : Int) < (m : Int) := by omega
   have HEJ : Aside0 (ej = 0 ∨ ej ≠ 0) := ⟨Decidable.em _⟩
   have EA := Aside0.mk eA
   rw [eA]
   clear hx hc hx2 hrj hbs htl hts hok hlt hjm eA
   go_wp2_with fail
   refine KL.mono ?_
   rintro e w5 ⟨A5, rfl, h5, hb5⟩
   dsimp only at h5
   have L5 := Aside0.mk h5
   have BS5 := Aside0.mk (BSr.out.below hb5)
   clear KL yc z9 h5 hb5
   dsimp only
   rcases HEJ.out with he | he
   rotate_left
   ·have h1 := labsM_no HXJ.out TS.out.2.2 (by rw [Int.toNat_natCast, HRJ.out]; exact he)
    rw [HLS.out, Int.toNat_natCast, HRJ.out] at h1
    have HR3 : Aside0 (rr = (ej, k)) := ⟨by rw [HR2.out, if_pos (by dsimp only at h1; rw [h1]; exact he)]; dsimp only at h1; rw [h1]⟩
    have g0 : (ej == 0) = false := beq_eq_false_iff_ne.mpr he
    have g1 : (ej != 0) = true := bne_iff_ne.mpr he
    clear he h1 HR2
    go_wp2_with fail
    rw [jump_ret]
    go_ret
    rw [HR3.out]
    exact ⟨rfl, S, BS5.out.kst⟩
   subst he
   go_wp2_with (at_builtin; refine tab_append rfl (.tmp 56) (.tmp 58) rfl BS5.out.row (by rw [List.length_map, TS.out.1]; rfl) (tv (A5, lj)) rfl rfl (by rw [List.length_map, TS.out.1]; have := HX.out.lb; have := HLT.out; have := HM.out; omega) ?_; intro r6 c6 w6 h1 h2 h3 h4; have BN := Aside0.mk (BS5.out.push h1 h3 h4 L5.out); rw [List.length_map, TS.out.1]; clear h1 h2 h3 h4)
   go_roundw
   case rel =>
    refine ⟨j + 1, _, _, _, _, by go_num, rfl, HLT.out, by rw [List.length_append, TS.out.1]; rfl, ?_, ?_, BN.out⟩
    ·rw [List.map_append, TS.out.2.1, List.take_add_one, HXJ.out, List.map_append]
     simp [HRJ.out]
    ·intro y hy
     rw [List.take_add_one, HXJ.out] at hy
     rcases List.mem_append.1 hy with hy | hy
     ·exact TS.out.2.2 y hy
     ·simp at hy
      rw [hy, Int.toNat_natCast, HRJ.out]
   case measure => have := HLT.out; simp [intOf]; omega
  ·obtain rfl : j = m := by omega
   clear hlt
   rw [List.take_of_length_le (by rw [HM.out]; exact Nat.le_refl _)] at hts hok
   have h1 := labsM_ok hok
   rw [HLS.out, ← hts] at h1
   injection h1 with h1 h2
   have HR3 : Aside0 (rr = if ((ts ++ [(A, l)]).map Prod.snd).all (fun t => t.length == l.length) = false then (152, k) else tryM k f ((ts ++ [(A, l)]).map Prod.snd)) := ⟨by rw [HR2.out, h1, h2, if_neg (by simp), List.map_append]; rfl⟩
   have JM : Aside0 (j ≤ 1048576) := ⟨by rw [HM.out]; exact HX.out.lb⟩
   obtain ⟨N, hN⟩ : ∃ N, N = j + 1 := ⟨_, rfl⟩
   have HN := Aside0.mk hN
   clear h1 h2 HR2 hts hok hbs
   go_wp2_with (at_builtin; refine tab_append rfl (.tmp 61) (.tmp 63) rfl BSr.out.row (by rw [List.length_map, htl]; rfl) (tv (A, l)) rfl rfl (by rw [List.length_map, htl]; have := JM.out; omega) ?_; intro r6 c6 w6 h1 h2 h3 h4; have BN := Aside0.mk (BSr.out.push h1 h3 h4 BSr.out.la); have BT := Aside0.mk (BSr.out.stay h2 h4); rw [List.length_map, htl, ← hN]; clear h1 h2 h3 h4)
   have T2 : Aside0 ((ts ++ [(A, l)]).length = N) := ⟨by rw [List.length_append, htl, hN]; rfl⟩
   have hN1 : N ≤ 1048577 := by have := JM.out; omega
   clear hjm
   obtain ⟨nl, hnl⟩ : ∃ nl, nl = l.length := ⟨_, rfl⟩
   have HNL := Aside0.mk hnl
   rw [← hnl]
   clear hnl
   go_loopw [66] (fun i W => ∃ q : Nat, i = .int .i64 q ∧ q ≤ N ∧ W = w6 ∧ ∀ t ∈ (ts ++ [(A, l)]).take q, t.2.length = l.length) (fun i _ => N - (intOf i).toNat)
   case atStart => exact ⟨0, rfl, Nat.zero_le _, by first | trivial | rfl, fun t ht => by simp at ht⟩
   case round =>
    obtain ⟨q, rfl, hqN, rfl, hql⟩ := hrel
    have QL := Aside0.mk hql
    by_cases hlt : q < N
    ·obtain ⟨t, ht⟩ : ∃ t, (ts ++ [(A, l)])[q]? = some t := ⟨_, List.getElem?_eq_getElem (by rw [T2.out]; exact hlt)⟩
     have y : wr.cell? ⟨r6, q, none⟩ = some (.slice t.1 t.2.length t.2.length) := BN.out.row.cell (by rw [List.getElem?_map, ht]; rfl)
     have HT := Aside0.mk ht
     have HLT := Aside0.mk hlt
     have hlt2 : (q : Int) < (N : Int) := by omega
     obtain ⟨nt, hnt⟩ : ∃ nt, nt = t.2.length := ⟨_, rfl⟩
     rw [← hnt] at y
     have HNT := Aside0.mk hnt
     clear ht hlt hql hqN hnt
     by_cases he : nt = nl
     ·subst he
      go_wp2_with fail
      go_roundw
      case rel =>
       refine ⟨q + 1, by go_num, HLT.out, by first | trivial | rfl, fun t' ht' => ?_⟩
       rw [List.take_add_one, HT.out] at ht'
       rcases List.mem_append.1 ht' with e | e
       ·exact QL.out t' e
       ·simp at e
        rw [e, ← HNT.out, HNL.out]
      case measure => have := HLT.out; simp [intOf]; omega
     ·have HR4 : Aside0 (rr = (152, k)) := ⟨by
       rw [HR3.out, if_pos]
       rw [List.all_eq_false]
       refine ⟨t.2, List.mem_map_of_mem (List.mem_of_getElem? HT.out), ?_⟩
       rw [← HNT.out, ← HNL.out]
       simpa using he⟩
      have g0 : ((nt : Int) == (nl : Int)) = false := beq_eq_false_iff_ne.mpr (by omega)
      have g1 : ((nt : Int) != (nl : Int)) = true := bne_iff_ne.mpr (by omega)
      have g2 : (nt == nl) = false := beq_eq_false_iff_ne.mpr he
      have g3 : (nt != nl) = true := bne_iff_ne.mpr he
      clear he HR3
      go_wp2_with fail
      rw [jump_ret]
      go_ret
      rw [HR4.out]
      exact ⟨rfl, S, BT.out.kst⟩
    ·obtain rfl : q = N := by omega
     rw [List.take_of_length_le (by rw [T2.out]; exact Nat.le_refl _)] at hql
     have AL := Aside0.mk hql
     have HR4 : Aside0 (rr = tryM k f ((ts ++ [(A, l)]).map Prod.snd)) := ⟨by
      rw [HR3.out, if_neg]
      rw [Bool.not_eq_false, List.all_eq_true]
      intro u hu
      obtain ⟨t, ht, rfl⟩ := List.mem_map.1 hu
      simpa using hql t ht⟩
     have KO := kOperands_calls BT.out.st (by have := HF.out.ops; omega)
     have z9 := BT.out.ki.pc
     clear hlt hql hqN HR3 QL
     go_wp2_with fail
     refine KO.mono ?_
     rintro e w7 ⟨vo, rfl, ho, hb⟩
     obtain ⟨AO, co, rfl⟩ := ho.slice
     have LO7 := Aside0.mk ho
     have BT7 := Aside0.mk (BT.out.below hb)
     obtain ⟨no, hno⟩ : ∃ no, no = k.ops.length := ⟨_, rfl⟩
     have HNO := Aside0.mk hno
     rw [HNL.out]
     clear KO z9 ho hb
     go_wp2_with (at_builtin; refine tab_append rfl (.tmp 81) (.tmp 83) rfl BT7.out.row (by rw [List.length_map, htl]; rfl) (tv (A, l)) rfl rfl (by rw [List.length_map, htl]; have := JM.out; omega) ?_; intro r8 c8 w8 h1 h2 h3 h4; have BN8 := Aside0.mk (BT7.out.push h1 h3 h4 BT7.out.la); have LO8 := Aside0.mk (LO7.out.to (S' := fun x => S x ∨ (D' x ∨ x = r8)) h4 (fun x e => .inl (.inr (by rw [e]; exact BT7.out.rD))) (fun x e => e.elim (fun e => .inl (.inl e)) (fun e => e.elim (fun e => .inl (.inr e)) (fun e => h3.elim (fun e2 => .inl (.inr (by rw [e, e2]; exact BT7.out.rD))) (fun l => .inr (by rw [e]; exact l)))))); rw [List.length_map, htl, ← hN]; clear h1 h2 h3 h4)
     go_loopw [5, 86] (fun e i W => ∃ (q : Nat) (S1 : Nat → Prop), e = .int .i64 0 ∧ i = .int .i64 q ∧ q ≤ j + 1 ∧ Kst (fun x => D' x ∨ x = r8) S g w8 k S1 W ∧ ∀ t ∈ (ts ++ [(A, l)]).take q, (popsM k.l f.height f.dead (t.2 ++ [i32T]) k.ops).1 = 0) (fun _ i _ => j + 1 - (intOf i).toNat)
     case atStart => exact ⟨0, S, rfl, rfl, Nat.zero_le _, Kst.refl BN8.out.st, fun t ht => by simp at ht⟩
     case round =>
      obtain ⟨q, S1, rfl, rfl, hqN, hk1, hq1⟩ := hrel
      have BW := Aside0.mk (BN8.out.next hk1)
      have LW := Aside0.mk (LO8.out.kst hk1)
      have QK := Aside0.mk (And.intro hk1 hq1)
      by_cases hlt : q < j + 1
      ·obtain ⟨t, ht⟩ : ∃ t, (ts ++ [(A, l)])[q]? = some t := ⟨_, List.getElem?_eq_getElem (by rw [T2.out]; omega)⟩
       have htm := List.mem_of_getElem? ht
       have yr : wr.cell? ⟨r8, q, none⟩ = some (.slice t.1 t.2.length t.2.length) := BW.out.row.cell (by rw [List.getElem?_map, ht]; rfl)
       have HT := Aside0.mk ht
       have HLT := Aside0.mk hlt
       have hlt2 : (q : Int) < ((j + 1 : Nat) : Int) := by omega
       have hlt3 : (q : Int) < (j : Int) + 1 := by omega
       obtain ⟨nt, hnt⟩ : ∃ nt, nt = t.2.length := ⟨_, rfl⟩
       rw [← hnt] at yr
       have LT := Aside0.mk (BW.out.ls t htm)
       have HNT : Aside0 (nt = t.2.length ∧ nt ≤ 1048576) := ⟨hnt, by rw [hnt, AL.out t htm]; exact HL.out⟩
       obtain ⟨pe, o', hp⟩ : ∃ pe o', popsM k.l f.height f.dead (t.2 ++ [i32T]) k.ops = (pe, o') := ⟨_, _, rfl⟩
       have HP := Aside0.mk hp
       have HPE : Aside0 (pe = 0 ∨ pe ≠ 0) := ⟨Decidable.em _⟩
       clear ht htm hlt hqN hnt hp hk1 hq1
       go_wp2_with fail
       obtain ⟨w9, hw9⟩ : ∃ w9, World.drew wr = w9 := ⟨_, rfl⟩
       have b9 : Below wr.heap.size wr w9 := by rw [← hw9]; exact (Below.refl _ _).drew
       have B9 := Aside0.mk (BW.out.below b9)
       have BL9 := Aside0.mk b9
       have hq9 : q ≤ 1048576 := by have := JM.out; have := HLT.out; omega
       have LT9 := Aside0.mk (LT.out.below b9)
       have LW9 := Aside0.mk (LW.out.below b9)
       have z9 : w9.cell? ⟨kb, 9, none⟩ = some (.pointer (some ⟨g, 0, none⟩)) := B9.out.ki.pc
       have i0 : w9.cell? ⟨w.heap.size, 0, none⟩ = some (.int .i64 1) := (blk_cell B9.out.i32 0).trans rfl
       have i1 : w9.cell? ⟨w.heap.size, 1, none⟩ = some (.bool false) := (blk_cell B9.out.i32 1).trans rfl
       have i2 : w9.cell? ⟨w.heap.size, 2, none⟩ = some (.int .i64 0) := (blk_cell B9.out.i32 2).trans rfl
       clear b9 yr hlt2 hlt3
       refine start_ (n := 10) (S := fun w' => w'.cell? ⟨kb, 9, none⟩ = some (.pointer (some ⟨g, 0, none⟩)) ∧ w'.cell? ⟨w.heap.size, 0, none⟩ = some (.int .i64 1) ∧ w'.cell? ⟨w.heap.size, 1, none⟩ = some (.bool false) ∧ w'.cell? ⟨w.heap.size, 2, none⟩ = some (.int .i64 0)) (ds := [8]) (bm_ 10 0) (by kernel_rfl) rfl rfl ⟨(by rw [hw9]; exact z9), (by rw [hw9]; exact i0), (by rw [hw9]; exact i1), (by rw [hw9]; exact i2)⟩ (fun hHeld => ?_)
       rw [hw9] at hHeld ⊢
       clear hw9 
       refine pz_ 0 90 10 1 ?_
       refine pz_ 1 91 10 3 ?_
       refine pz_ 2 92 10 7 ?_
       refine pz_ 4 94 10 23 ?_
       refine tz_ 3 93 10 31 hHeld ?_
       refine tz_ 5 95 10 63 hHeld ?_
       refine oz_ 6 96 10 127 fun K hK => ?_
       refine vz_ ?_
       refine hK.out _ _ ⟨((bz_ : Below w9.heap.size w9 (w9.alloc _)).cell (World.block_lt_of_cell? _ _ hHeld.1)).trans hHeld.1, ((bz_ : Below w9.heap.size w9 (w9.alloc _)).cell (World.block_lt_of_cell? _ _ hHeld.2.1)).trans hHeld.2.1, ((bz_ : Below w9.heap.size w9 (w9.alloc _)).cell (World.block_lt_of_cell? _ _ hHeld.2.2.1)).trans hHeld.2.2.1, ((bz_ : Below w9.heap.size w9 (w9.alloc _)).cell (World.block_lt_of_cell? _ _ hHeld.2.2.2)).trans hHeld.2.2.2⟩ (fun hHeld => ?_)
       clear hK K
       refine nz_ ?_
       refine oz_ 7 97 10 255 fun K hK => ?_
       refine full_append_step (F := fun y => S1 y ∨ (D' y ∨ y = r8)) (W := w9) (by rfl) (.tmp 94) (.tmp 96) rfl (show LK k39 _ w9 (.slice t.1 nt nt) t.2 by have h_ := LT9.out; unfold tv at h_; rw [← HNT.out.1] at h_; exact h_) rfl i32T rfl HNT.out.2 (fun y e => B9.out.st.lt y e) ?_
       intro A' c' w10 hl10 hb10
       have L10 := Aside0.mk hl10
       have B10 := Aside0.mk (B9.out.below hb10)
       have LW10 := Aside0.mk (LW9.out.below hb10)
       have BL10 := Aside0.mk (BL9.out.trans (hb10.mono BL9.out.size))
       have g_ : _ ∧ _ ∧ _ ∧ _ := ⟨hb10.kp z9, hb10.kp i0, hb10.kp i1, hb10.kp i2⟩
       clear hl10 hb10
       refine hK.out _ _ ⟨g_.1, g_.2.1, g_.2.2.1, g_.2.2.2⟩ (fun hHeld => ?_)
       clear hK K
       refine nz_ ?_
       refine lz_ 8 98 10 511 fun K hK => ?_
       have KP := kPops_calls (A := A') (c := c') (l := t.2 ++ [i32T]) B10.out.st HF.out.g HF.out.lf HF.out.h (by have := HF.out.ops; omega) (by have := HF.out.frs; omega) (by rw [List.length_append]; exact L10.out) (by rw [List.length_append]; have := HNT.out; simp; omega) HP.out
       rw [List.length_append, List.length_singleton] at KP
       refine gz_ Tryz.func70 #[.pointer (some ⟨g, 0, none⟩), .slice A' (t.2.length + 1) c'] ?_
       with_reducible refine (KP).mono ?_
       rintro e w11 ⟨rfl, S11, q11⟩
       have Q11 := Aside0.mk q11
       clear q11 KP
       refine ⟨_, rfl, ?_⟩
       refine hK.out _ _ ?_
       clear hK K
       refine nz_ ?_
       refine pz_ 9 5 10 1023 ?_
       refine dz_ ?_
       clear z9 i0 i1 i2
       rcases HPE.out with he | he
       rotate_left
       ·have ho := popsM_zero HP.out he
        have HR5 : Aside0 (rr = (pe, k)) := ⟨by
         rw [HR4.out]
         have h1 := tryM_no (k := k) (f := f) (ls := (ts ++ [(A, l)]).map Prod.snd) (j := q) (l := t.2) (by rw [List.getElem?_map, HT.out]; rfl) (fun u hu => by
          rw [← List.map_take] at hu
          obtain ⟨t', ht', rfl⟩ := List.mem_map.1 hu
          exact QK.out.2 t' ht') (by rw [HP.out]; exact he)
         rw [HP.out] at h1
         exact h1⟩
        have g0 : (pe == 0) = false := beq_eq_false_iff_ne.mpr he
        have g1 : (pe != 0) = true := bne_iff_ne.mpr he
        have QE : Aside0 (Kst D S g w k S11 w11) := ⟨B10.out.kst.trans (by have h_ := Q11.out; rw [ho] at h_; exact h_.less B10.out.hD)⟩
        clear ho he HR4
        go_wp2_with fail
        go_step3
        refine ⟨rfl, ?_⟩
        rw [HR5.out]
        exact JT.mk _ rfl ⟨rfl, S11, QE.out⟩
       subst he
       have KH := kHeight_calls Q11.out.st
       have hk11 := B10.out.ki.kst Q11.out
       have LW11 := Aside0.mk (LW10.out.kst Q11.out)
       have hol : o'.length ≤ no := by have h_ := popsM_inv (l := k.l) (dead := f.dead) (t.2 ++ [i32T]) k.ops HF.out.h; rw [HP.out] at h_; rw [HNO.out]; exact h_.2
       have HOL := Aside0.mk hol
       have HK11 := Aside0.mk hk11
       clear hk11
       go_wp2_with fail
       obtain ⟨w12, hw12⟩ : ∃ w12, World.drew w11 = w12 := ⟨_, rfl⟩
       have b12 : Below w11.heap.size w11 w12 := by rw [← hw12]; exact (Below.refl _ _).drew
       have Q12 := Aside0.mk (Q11.out.below b12)
       have HK12 := Aside0.mk (HK11.out.below b12)
       have LW12 := Aside0.mk (LW11.out.below b12)
       have z9 : w12.cell? ⟨kb, 9, none⟩ = some (.pointer (some ⟨g, 0, none⟩)) := HK12.out.pc
       have KH2 := kHeight_calls Q12.out.st
       dsimp only at KH2
       obtain ⟨ho, hho⟩ : ∃ ho, ho = o'.length := ⟨_, rfl⟩
       have HHO := Aside0.mk hho
       rw [← hho] at KH2
       have hh1 : ho ≤ k.ops.length := by rw [hho, ← HNO.out]; exact HOL.out
       have hh2 : (ho : Int) ≤ (k.ops.length : Int) := by omega
       have hh3 : (0 : Int) ≤ (ho : Int) := Int.natCast_nonneg ho
       clear b12 hol KH hho
       refine start_ (n := 12) (S := fun w' => w'.cell? ⟨kb, 9, none⟩ = some (.pointer (some ⟨g, 0, none⟩))) (ds := [11]) (bm_ 12 0) (by kernel_rfl) rfl rfl ((by rw [hw12]; exact z9)) (fun hHeld => ?_)
       rw [hw12] at hHeld ⊢
       clear hw12 
       refine pz_ 0 101 12 1 ?_
       refine pz_ 1 102 12 3 ?_
       refine pz_ 2 103 12 7 ?_
       refine pz_ 4 105 12 23 ?_
       refine pz_ 5 106 12 55 ?_
       refine pz_ 6 107 12 119 ?_
       refine pz_ 7 108 12 247 ?_
       refine tz_ 3 104 12 255 hHeld ?_
       refine tz_ 8 109 12 511 hHeld ?_
       refine oz_ 9 110 12 1023 fun K hK => ?_
       refine gz_ Tryz.func38 #[.pointer (some ⟨g, 0, none⟩)] ?_
       with_reducible refine (KH2).mono ?_
       rintro e w13 ⟨rfl, ew13⟩
       rw [ew13]
       refine ⟨_, rfl, ?_⟩
       refine hK.out _ _ (hHeld) (fun hHeld => ?_)
       clear hK K
       refine nz_ ?_
       refine pz_ 10 111 12 2047 ?_
       refine lz_ 11 112 12 4095 fun K hK => ?_
       have LD : LK k39 (fun y => S11 y ∨ (D' y ∨ y = r8)) w12 (.slice (if co = ho then AO else AO.map (fun x => x.add (ho * 3))) (k.ops.length - ho) (co - ho)) (k.ops.drop ho) := LW12.out.drop hh1
       have KPu := kPushes_calls (A := (if co = ho then AO else AO.map (fun x => x.add (ho * 3)))) (c := co - ho) (l := k.ops.drop ho) Q12.out.st (by rw [List.length_drop]; exact LD) HF.out.pos (by have := HF.out.ops; have := HOL.out; have := HNO.out; dsimp only; rw [List.length_drop]; omega)
       dsimp only at KPu
       rw [List.length_drop, HHO.out, pops_back HP.out, ← HHO.out] at KPu
       refine gz_ Tryz.func33 #[.pointer (some ⟨g, 0, none⟩), .slice (if co = ho then AO else AO.map (fun x => x.add (ho * 3))) (k.ops.length - ho) (co - ho)] ?_
       with_reducible refine (KPu).mono ?_
       rintro e w13 ⟨rfl, S13, q13⟩
       have Q13 := Aside0.mk (Q12.out.trans q13)
       clear q13 KPu LD
       refine ⟨_, rfl, ?_⟩
       refine hK.out _ _ ?_
       clear hK K
       refine nz_ ?_
       refine dz_ ?_
       clear z9 hh1 hh2 hh3
       go_wp2_with fail
       go_roundw
       case rel =>
        refine ⟨q + 1, S13, rfl, by go_num, HLT.out, QK.out.1.trans (Q13.out.ahead BL10.out), fun u hu => ?_⟩
        rw [List.take_add_one, HT.out] at hu
        rcases List.mem_append.1 hu with e | e
        ·exact QK.out.2 u e
        ·simp at e
         rw [e, HP.out]
       case measure => have := HLT.out; simp [intOf]; omega
      ·obtain rfl : q = j + 1 := by omega
       rw [List.take_of_length_le (by rw [T2.out]; omega)] at hq1
       have HR5 : Aside0 (rr = (0, unrM k f)) := ⟨by
        rw [HR4.out]
        refine tryM_ok (fun m hm => ?_)
        obtain ⟨t, ht, rfl⟩ := List.mem_map.1 hm
        exact hq1 t ht⟩
       have KU := HF.out.unr BW.out.st
       have z9 := BW.out.ki.pc
       clear hlt hqN hk1 hq1 HR4 QK
       go_wp2_with fail
       refine KU.mono ?_
       rintro e w9 ⟨rfl, S9, q9⟩
       have Q9 := Aside0.mk q9
       clear KU q9 z9
       go_wp2_with fail
       rw [jump_ret]
       go_ret
       rw [HR5.out]
       exact ⟨rfl, S9, BW.out.kst.trans (Q9.out.less BW.out.hD)⟩
end
section
variable {w1 w w' : World} {D S S' : Nat → Prop} {kb g : Nat} {X : CX} {I : IX} {k k' : Chk} {f : Fr}
/-- The step of an opcode. -/
theorem step_fn (h : St D S g k w) (hF : Fit k f) (hk : KI w1 D S kb g X I w) (hx : XK w1 X I) (hG : GOk X.l0) {n : Nat} (hm : (I.op, n) ∈ STEPS) : Calls Tryz.prog n #[.pointer (some ⟨kb, 0, none⟩)] w (SOut D S g (stepM X I k f) w) := by
 simp only [STEPS, List.mem_cons, Prod.mk.injEq, List.not_mem_nil, or_false] at hm
 rcases hm with ⟨e1, rfl⟩ | ⟨e1, rfl⟩ | ⟨e1, rfl⟩ | ⟨e1, rfl⟩ | ⟨e1, rfl⟩ | ⟨e1, rfl⟩ | ⟨e1, rfl⟩ | ⟨e1, rfl⟩ | ⟨e1, rfl⟩ | ⟨e1, rfl⟩ | ⟨e1, rfl⟩ | ⟨e1, rfl⟩ | ⟨e1, rfl⟩ | ⟨e1, rfl⟩ | ⟨e1, rfl⟩ | ⟨e1, rfl⟩
 ·rw [show stepM X I k f = (0, unrM k f) by simp [stepM, e1]]
  exact vUnreachable_calls h hF hk
 ·rw [show stepM X I k f = (0, k) by simp [stepM, e1]]
  exact vNop_calls h kb
 ·rw [show stepM X I k f = throwM X k f I.x by simp [stepM, e1]]
  exact vThrow_calls h hF hk hx
 ·rw [show stepM X I k f = awayM k f [⟨5, true, -11⟩] by simp [stepM, e1]]
  exact vThrowRef_calls h hF hk
 ·rw [show stepM X I k f = brM k f I.x by simp [stepM, e1]]
  exact vBr_calls h hF hk hx
 ·rw [show stepM X I k f = brIfM k f I.x by simp [stepM, e1]]
  exact vBrIf_calls h hF hk hx
 ·rw [show stepM X I k f = brTableM k f I.x I.ls by simp [stepM, e1]]
  exact vBrTable_calls h hF hk hx
 ·rw [show stepM X I k f = awayM k f k.results by simp [stepM, e1]]
  exact vLeave_calls h hF hk
 ·rw [show stepM X I k f = callM X I k f by simp [stepM, e1]]
  exact vCall_calls h hF hk hx hG (by simp [e1])
 ·rw [show stepM X I k f = callM X I k f by simp [stepM, e1]]
  exact vCall_calls h hF hk hx hG (by simp [e1])
 ·rw [show stepM X I k f = tailM X I k f by simp [stepM, e1]]
  exact vTail_calls h hF hk hx hG (by simp [e1])
 ·rw [show stepM X I k f = tailM X I k f by simp [stepM, e1]]
  exact vTail_calls h hF hk hx hG (by simp [e1])
 ·rw [show stepM X I k f = callM X I k f by simp [stepM, e1]]
  exact vCall_calls h hF hk hx hG (by simp [e1])
 ·rw [show stepM X I k f = tailM X I k f by simp [stepM, e1]]
  exact vTail_calls h hF hk hx hG (by simp [e1])
 ·rw [show stepM X I k f = onNullM k f I.x by simp [stepM, e1]]
  exact vOnNull_calls h hF hk hx
 ·rw [show stepM X I k f = onNonNullM X k f I.x by simp [stepM, e1]]
  exact vOnNonNull_calls h hF hk hx hG
theorem step_in {n : Nat} {op : Int} (hm : (op, n) ∈ STEPS) (args : Array Value) (w : World) : (callFunc n args).run Tryz.prog w = .ok (.enter n args) w := by
 simp only [STEPS, List.mem_cons, Prod.mk.injEq, List.not_mem_nil, or_false] at hm
 rcases hm with ⟨_, rfl⟩ | ⟨_, rfl⟩ | ⟨_, rfl⟩ | ⟨_, rfl⟩ | ⟨_, rfl⟩ | ⟨_, rfl⟩ | ⟨_, rfl⟩ | ⟨_, rfl⟩ | ⟨_, rfl⟩ | ⟨_, rfl⟩ | ⟨_, rfl⟩ | ⟨_, rfl⟩ | ⟨_, rfl⟩ | ⟨_, rfl⟩ | ⟨_, rfl⟩ | ⟨_, rfl⟩
 ·exact enters_ Tryz.func87 (by kernel_rfl) rfl args w
 ·exact enters_ Tryz.func88 (by kernel_rfl) rfl args w
 ·exact enters_ Tryz.func89 (by kernel_rfl) rfl args w
 ·exact enters_ Tryz.func90 (by kernel_rfl) rfl args w
 ·exact enters_ Tryz.func91 (by kernel_rfl) rfl args w
 ·exact enters_ Tryz.func92 (by kernel_rfl) rfl args w
 ·exact enters_ Tryz.func93 (by kernel_rfl) rfl args w
 ·exact enters_ Tryz.func94 (by kernel_rfl) rfl args w
 ·exact enters_ Tryz.func95 (by kernel_rfl) rfl args w
 ·exact enters_ Tryz.func95 (by kernel_rfl) rfl args w
 ·exact enters_ Tryz.func96 (by kernel_rfl) rfl args w
 ·exact enters_ Tryz.func96 (by kernel_rfl) rfl args w
 ·exact enters_ Tryz.func95 (by kernel_rfl) rfl args w
 ·exact enters_ Tryz.func96 (by kernel_rfl) rfl args w
 ·exact enters_ Tryz.func97 (by kernel_rfl) rfl args w
 ·exact enters_ Tryz.func98 (by kernel_rfl) rfl args w
theorem fnv_eq (n : Nat) : fnv n = .func (.func n) #[] #[] := rfl
set_option maxHeartbeats 8000000 in
theorem vStep_calls (h : St D S g k w) (hF : Fit k f) (hx : XK w1 X I) (hb : Below w1.heap.size w1 w) (nw : ∀ x, S x ∨ D x → w1.heap.size ≤ x) (hG : GOk X.l0) (hop : NV64 I.op) : Calls Tryz.prog 19 #[.agg #[.slice X.A0 X.l0.length X.c0, .slice X.A1 X.l1.length X.c1, .slice X.A2 X.l2.length X.c2, .slice X.A3 X.l3.length X.c3, .slice X.A4 X.l4.length X.c4, .slice X.A5 X.l5.length X.c5, .slice X.A6 X.l6.length X.c6, .int .i64 X.d7, .slice X.A8 X.l8.length X.c8], .pointer (some ⟨g, 0, none⟩), .agg #[.int .i64 I.op, .int .u32 I.x, .int .u32 I.y, I.v3, I.v4, I.v5, I.v6, I.v7, I.v8, I.v9, I.v10, I.v11, I.v12, I.v13, .slice I.AL I.ls.length I.cL, I.v15, I.v16]] w (SOut D S g (stepM X I k f) w) := by
 obtain ⟨W, hW⟩ : ∃ W, W = (w.alloc (.cells #[.slice X.A0 X.l0.length X.c0, .slice X.A1 X.l1.length X.c1, .slice X.A2 X.l2.length X.c2, .slice X.A3 X.l3.length X.c3, .slice X.A4 X.l4.length X.c4, .slice X.A5 X.l5.length X.c5, .slice X.A6 X.l6.length X.c6, .int .i64 X.d7, .slice X.A8 X.l8.length X.c8] 30)).alloc (.cells #[.int .i64 I.op, .int .u32 I.x, .int .u32 I.y, I.v3, I.v4, I.v5, I.v6, I.v7, I.v8, I.v9, I.v10, I.v11, I.v12, I.v13, .slice I.AL I.ls.length I.cL, I.v15, I.v16] 46) := ⟨_, rfl⟩
 have b1 : Below w.heap.size w W := by rw [hW]; exact (bz_).alloc (by simp) _
 have hq0 : W.heap[w.heap.size]? = some (.cells #[.slice X.A0 X.l0.length X.c0, .slice X.A1 X.l1.length X.c1, .slice X.A2 X.l2.length X.c2, .slice X.A3 X.l3.length X.c3, .slice X.A4 X.l4.length X.c4, .slice X.A5 X.l5.length X.c5, .slice X.A6 X.l6.length X.c6, .int .i64 X.d7, .slice X.A8 X.l8.length X.c8] 30 (0, 0)) := by rw [hW]; exact blk_alloc (blk_new w _) _
 have hq1 : W.heap[w.heap.size + 1]? = some (.cells #[.int .i64 I.op, .int .u32 I.x, .int .u32 I.y, I.v3, I.v4, I.v5, I.v6, I.v7, I.v8, I.v9, I.v10, I.v11, I.v12, I.v13, .slice I.AL I.ls.length I.cL, I.v15, I.v16] 46 (0, 0)) := by rw [hW]; have h_ := blk_new (w.alloc (.cells #[.slice X.A0 X.l0.length X.c0, .slice X.A1 X.l1.length X.c1, .slice X.A2 X.l2.length X.c2, .slice X.A3 X.l3.length X.c3, .slice X.A4 X.l4.length X.c4, .slice X.A5 X.l5.length X.c5, .slice X.A6 X.l6.length X.c6, .int .i64 X.d7, .slice X.A8 X.l8.length X.c8] 30)) (.cells #[.int .i64 I.op, .int .u32 I.x, .int .u32 I.y, I.v3, I.v4, I.v5, I.v6, I.v7, I.v8, I.v9, I.v10, I.v11, I.v12, I.v13, .slice I.AL I.ls.length I.cL, I.v15, I.v16] 46); rw [World.size_alloc] at h_; exact h_
 have HQ := Aside0.mk (And.intro hq0 hq1)
 have H := Aside0.mk h
 have HF := Aside0.mk hF
 have HX := Aside0.mk hx
 have HG := Aside0.mk hG
 have B1 := Aside0.mk b1
 have BW := Aside0.mk hb
 have NW := Aside0.mk nw
 have HLT : Aside0 (∀ x, S x ∨ D x → x < w.heap.size) := ⟨h.lt⟩
 have hwf : (Lit.int .i64 I.op).wf = true := by simp only [Lit.wf, Bool.and_eq_true, decide_eq_true_eq]; exact hop
 have WF := Aside0.mk hwf
 have KN := vnone_calls (h.below b1) hF
 obtain ⟨rr, hrr⟩ : ∃ rr, rr = stepM X I k f := ⟨_, rfl⟩
 rw [← hrr]
 have HR := Aside0.mk hrr
 clear h hF hx hb nw hG hop b1 hq0 hq1 hwf hrr
 go_enter Tryz.func19, Tryz.ntmps19
 go_wp2_with fail
 rw [← hW]
 clear hW
 refine KN.mono ?_
 rintro e w2 ⟨rfl, S2, q2⟩
 have Q2 := Aside0.mk q2
 have HQ2 := Aside0.mk (And.intro (q2.chg.blk HQ.out.1 (fun e => by have := HLT.out _ (.inl e); omega)) (q2.chg.blk HQ.out.2 (fun e => by have := HLT.out _ (.inl e); omega)))
 clear KN q2
 go_wp2_with fail
 obtain ⟨w3, hw3⟩ : ∃ w3, World.drew w2 = w3 := ⟨_, rfl⟩
 have b3 : Below w2.heap.size w2 w3 := by rw [← hw3]; exact (Below.refl _ _).drew
 have hq3 := blk_below HQ2.out.2 b3
 have z0 : w3.cell? ⟨w.heap.size + 1, 0, none⟩ = some (.int .i64 I.op) := (blk_cell hq3 0).trans rfl
 have B3 := Aside0.mk b3
 have KS := vSteps_held w3
 clear b3 hq3
 by_cases hm : ∃ n, (I.op, n) ∈ STEPS
 ·obtain ⟨n, hm⟩ := hm
  have HM := Aside0.mk hm
  have hcf := fun args w => step_in hm args w
  clear hm
  refine start_ (n := 9) (S := fun w' => w'.cell? ⟨w.heap.size + 1, 0, none⟩ = some (.int .i64 I.op)) (ds := []) (bm_ 9 0) (by kernel_rfl) rfl rfl ((by rw [hw3]; exact z0)) (fun hHeld => ?_)
  rw [hw3] at hHeld ⊢
  clear hw3 z0
  refine pz_ 1 13 9 2 ?_
  refine tz_ 2 14 9 6 hHeld ?_
  refine oz_ 0 12 9 7 fun K hK => ?_
  refine goes_ Tryz.func52 (by kernel_rfl) rfl #[] (by rfl) rfl rfl (by simp only [List.map_toArray, List.map_nil]) ?_
  with_reducible refine (KS).mono ?_
  rintro e w4 ⟨rfl, hmh⟩
  have MH4 := Aside0.mk hmh
  have B4 := Aside0.mk (B3.out.trans (hmh.bel.mono B3.out.size))
  clear hmh KS
  refine ⟨_, rfl, ?_⟩
  refine hK.out _ _ (MH4.out.bel.kp hHeld) (fun hHeld => ?_)
  clear hK K
  refine nz_ ?_
  refine oz_ 3 15 9 15 fun K hK => ?_
  have hl := step_yes MH4.out HM.out; rw [fnv_eq] at hl
  refine vz_ ?_
  refine hK.out _ _ (hHeld) (fun hHeld => ?_)
  clear hK K
  refine nz_ ?_
  refine pz_ 4 11 9 31 ?_
  refine pz_ 5 16 9 63 ?_
  refine pz_ 6 17 9 127 ?_
  refine pz_ 7 7 9 255 ?_
  refine pz_ 8 8 9 511 ?_
  refine dz_ ?_
  have HB4 := Aside0.mk (And.intro (blk_below HQ2.out.1 B4.out) (blk_below HQ2.out.2 B4.out))
  have x0 : w4.cell? ⟨w.heap.size, 0, none⟩ = some (.slice X.A0 X.l0.length X.c0) := (blk_cell HB4.out.1 0).trans rfl
  have x1 : w4.cell? ⟨w.heap.size, 1, none⟩ = some (.slice X.A1 X.l1.length X.c1) := (blk_cell HB4.out.1 1).trans rfl
  have x2 : w4.cell? ⟨w.heap.size, 2, none⟩ = some (.slice X.A2 X.l2.length X.c2) := (blk_cell HB4.out.1 2).trans rfl
  have x3 : w4.cell? ⟨w.heap.size, 3, none⟩ = some (.slice X.A3 X.l3.length X.c3) := (blk_cell HB4.out.1 3).trans rfl
  have x4 : w4.cell? ⟨w.heap.size, 4, none⟩ = some (.slice X.A4 X.l4.length X.c4) := (blk_cell HB4.out.1 4).trans rfl
  have x5 : w4.cell? ⟨w.heap.size, 5, none⟩ = some (.slice X.A5 X.l5.length X.c5) := (blk_cell HB4.out.1 5).trans rfl
  have x6 : w4.cell? ⟨w.heap.size, 6, none⟩ = some (.slice X.A6 X.l6.length X.c6) := (blk_cell HB4.out.1 6).trans rfl
  have x7 : w4.cell? ⟨w.heap.size, 7, none⟩ = some (.int .i64 X.d7) := (blk_cell HB4.out.1 7).trans rfl
  have x8 : w4.cell? ⟨w.heap.size, 8, none⟩ = some (.slice X.A8 X.l8.length X.c8) := (blk_cell HB4.out.1 8).trans rfl
  have y0 : w4.cell? ⟨w.heap.size + 1, 0, none⟩ = some (.int .i64 I.op) := (blk_cell HB4.out.2 0).trans rfl
  have y1 : w4.cell? ⟨w.heap.size + 1, 1, none⟩ = some (.int .u32 I.x) := (blk_cell HB4.out.2 1).trans rfl
  have y2 : w4.cell? ⟨w.heap.size + 1, 2, none⟩ = some (.int .u32 I.y) := (blk_cell HB4.out.2 2).trans rfl
  have y3 : w4.cell? ⟨w.heap.size + 1, 3, none⟩ = some (I.v3) := (blk_cell HB4.out.2 3).trans rfl
  have y4 : w4.cell? ⟨w.heap.size + 1, 4, none⟩ = some (I.v4) := (blk_cell HB4.out.2 4).trans rfl
  have y5 : w4.cell? ⟨w.heap.size + 1, 5, none⟩ = some (I.v5) := (blk_cell HB4.out.2 5).trans rfl
  have y6 : w4.cell? ⟨w.heap.size + 1, 6, none⟩ = some (I.v6) := (blk_cell HB4.out.2 6).trans rfl
  have y7 : w4.cell? ⟨w.heap.size + 1, 7, none⟩ = some (I.v7) := (blk_cell HB4.out.2 7).trans rfl
  have y8 : w4.cell? ⟨w.heap.size + 1, 8, none⟩ = some (I.v8) := (blk_cell HB4.out.2 8).trans rfl
  have y9 : w4.cell? ⟨w.heap.size + 1, 9, none⟩ = some (I.v9) := (blk_cell HB4.out.2 9).trans rfl
  have y10 : w4.cell? ⟨w.heap.size + 1, 10, none⟩ = some (I.v10) := (blk_cell HB4.out.2 10).trans rfl
  have y11 : w4.cell? ⟨w.heap.size + 1, 11, none⟩ = some (I.v11) := (blk_cell HB4.out.2 11).trans rfl
  have y12 : w4.cell? ⟨w.heap.size + 1, 12, none⟩ = some (I.v12) := (blk_cell HB4.out.2 12).trans rfl
  have y13 : w4.cell? ⟨w.heap.size + 1, 13, none⟩ = some (I.v13) := (blk_cell HB4.out.2 13).trans rfl
  have y14 : w4.cell? ⟨w.heap.size + 1, 14, none⟩ = some (.slice I.AL I.ls.length I.cL) := (blk_cell HB4.out.2 14).trans rfl
  have y15 : w4.cell? ⟨w.heap.size + 1, 15, none⟩ = some (I.v15) := (blk_cell HB4.out.2 15).trans rfl
  have y16 : w4.cell? ⟨w.heap.size + 1, 16, none⟩ = some (I.v16) := (blk_cell HB4.out.2 16).trans rfl
  go_wp2_with fail
  obtain ⟨w5, hw5⟩ : ∃ w5, w5 = w4.alloc (.cells #[.slice X.A0 X.l0.length X.c0, .slice X.A1 X.l1.length X.c1, .slice X.A2 X.l2.length X.c2, .slice X.A3 X.l3.length X.c3, .slice X.A4 X.l4.length X.c4, .slice X.A5 X.l5.length X.c5, .slice X.A6 X.l6.length X.c6, .int .i64 X.d7, .slice X.A8 X.l8.length X.c8, .pointer (some ⟨g, 0, none⟩), .int .i64 I.op, .int .u32 I.x, .int .u32 I.y, I.v3, I.v4, I.v5, I.v6, I.v7, I.v8, I.v9, I.v10, I.v11, I.v12, I.v13, .slice I.AL I.ls.length I.cL, I.v15, I.v16] 87) := ⟨_, rfl⟩
  have b5 : Below w4.heap.size w4 w5 := by rw [hw5]; exact bz_
  have q5 : w5.heap[w4.heap.size]? = some (.cells #[.slice X.A0 X.l0.length X.c0, .slice X.A1 X.l1.length X.c1, .slice X.A2 X.l2.length X.c2, .slice X.A3 X.l3.length X.c3, .slice X.A4 X.l4.length X.c4, .slice X.A5 X.l5.length X.c5, .slice X.A6 X.l6.length X.c6, .int .i64 X.d7, .slice X.A8 X.l8.length X.c8, .pointer (some ⟨g, 0, none⟩), .int .i64 I.op, .int .u32 I.x, .int .u32 I.y, I.v3, I.v4, I.v5, I.v6, I.v7, I.v8, I.v9, I.v10, I.v11, I.v12, I.v13, .slice I.AL I.ls.length I.cL, I.v15, I.v16] 87 (0, 0)) := by rw [hw5]; exact blk_new w4 _
  have S5 := (Q2.out.below (B4.out.trans (b5.mono B4.out.size)))
  have hki : KI w1 D S2 w4.heap.size g X I w5 := ⟨q5, below_chg ((Chg.of_below (BW.out.trans (B1.out.mono BW.out.size)) (fun _ => False)).trans (K := S) S5.chg (fun _ e => e.elim) (fun x e => .inl e)) (Nat.le_refl _) (fun x e => NW.out x (.inl e)), fun x e => e.elim (fun e => (S5.grow x e).elim (fun e => NW.out x (.inl e)) (fun l => Nat.le_trans (Nat.le_trans BW.out.size B1.out.size) l)) (fun e => NW.out x (.inr e)), fun e => by have := Q2.out.st.lt _ (.inl e); have := B4.out.size; omega⟩
  have K5 := step_fn S5.st HF.out hki HX.out HG.out HM.out
  rw [← HR.out, hw5] at K5
  have S5' := Aside0.mk S5
  clear S5 hki q5 b5
  unfold SOut at K5
  refine K5.mono ?_
  rintro e w6 ⟨rfl, S6, q6⟩
  rw [← hw5] at q6
  have Q6 := Aside0.mk q6
  clear K5 q6 hcf x0 x1 x2 x3 x4 x5 x6 x7 x8 y0 y1 y2 y3 y4 y5 y6 y7 y8 y9 y10 y11 y12 y13 y14 y15 y16
  go_wp2_with fail
  go_ret
  exact ⟨rfl, S6, (S5'.out.ahead B1.out).trans Q6.out⟩
 ·have hno : ∀ n, (I.op, n) ∉ STEPS := fun n e => hm ⟨n, e⟩
  have HNO := Aside0.mk hno
  have HR2 : Aside0 (rr = (6, k)) := ⟨by
   rw [HR.out]
   unfold stepM
   have n0 : ¬ I.op = 0 := fun e => hno 87 (by simp [STEPS, e])
   have n1 : ¬ I.op = 1 := fun e => hno 88 (by simp [STEPS, e])
   have n8 : ¬ I.op = 8 := fun e => hno 89 (by simp [STEPS, e])
   have n10 : ¬ I.op = 10 := fun e => hno 90 (by simp [STEPS, e])
   have n12 : ¬ I.op = 12 := fun e => hno 91 (by simp [STEPS, e])
   have n13 : ¬ I.op = 13 := fun e => hno 92 (by simp [STEPS, e])
   have n14 : ¬ I.op = 14 := fun e => hno 93 (by simp [STEPS, e])
   have n15 : ¬ I.op = 15 := fun e => hno 94 (by simp [STEPS, e])
   have n16 : ¬ I.op = 16 := fun e => hno 95 (by simp [STEPS, e])
   have n17 : ¬ I.op = 17 := fun e => hno 95 (by simp [STEPS, e])
   have n18 : ¬ I.op = 18 := fun e => hno 96 (by simp [STEPS, e])
   have n19 : ¬ I.op = 19 := fun e => hno 96 (by simp [STEPS, e])
   have n20 : ¬ I.op = 20 := fun e => hno 95 (by simp [STEPS, e])
   have n21 : ¬ I.op = 21 := fun e => hno 96 (by simp [STEPS, e])
   have n213 : ¬ I.op = 213 := fun e => hno 97 (by simp [STEPS, e])
   have n214 : ¬ I.op = 214 := fun e => hno 98 (by simp [STEPS, e])
   rw [if_neg n0, if_neg n1, if_neg n8, if_neg n10, if_neg n12, if_neg n13, if_neg n14, if_neg n15, if_neg (by simp [n16, n17, n20]), if_neg (by simp [n18, n19, n21]), if_neg n213, if_neg n214]⟩
  clear hm hno
  refine start_ (n := 9) (S := fun w' => w'.cell? ⟨w.heap.size + 1, 0, none⟩ = some (.int .i64 I.op)) (ds := []) (bm_ 9 0) (by kernel_rfl) rfl rfl ((by rw [hw3]; exact z0)) (fun hHeld => ?_)
  rw [hw3] at hHeld ⊢
  clear hw3 z0
  refine pz_ 1 13 9 2 ?_
  refine tz_ 2 14 9 6 hHeld ?_
  refine oz_ 0 12 9 7 fun K hK => ?_
  refine goes_ Tryz.func52 (by kernel_rfl) rfl #[] (by rfl) rfl rfl (by simp only [List.map_toArray, List.map_nil]) ?_
  with_reducible refine (KS).mono ?_
  rintro e w4 ⟨rfl, hmh⟩
  have MH4 := Aside0.mk hmh
  have B4 := Aside0.mk (B3.out.trans (hmh.bel.mono B3.out.size))
  clear hmh KS
  refine ⟨_, rfl, ?_⟩
  refine hK.out _ _ (MH4.out.bel.kp hHeld) (fun hHeld => ?_)
  clear hK K
  refine nz_ ?_
  refine oz_ 3 15 9 15 fun K hK => ?_
  obtain ⟨vz, hl⟩ := step_no MH4.out WF.out HNO.out
  refine vz_ ?_
  refine hK.out _ _ (hHeld) (fun hHeld => ?_)
  clear hK K
  refine nz_ ?_
  refine pz_ 4 11 9 31 ?_
  refine pz_ 5 16 9 63 ?_
  refine pz_ 6 17 9 127 ?_
  refine pz_ 7 7 9 255 ?_
  refine pz_ 8 8 9 511 ?_
  refine dz_ ?_
  clear hl
  go_wp2_with fail
  go_ret
  rw [HR2.out]
  exact ⟨rfl, S2, (Q2.out.below B4.out).ahead B1.out⟩
end
end Go.Proofs.YtohlmkcgempdlaaGreatDoor.Cn
namespace Go.Proofs.YtohlmkcgempdlaaGreatDoor.QD
open Go.RowKit Go.Proofs.YtohlmkcgempdlaaGreatDoorW.PrintWords Go.Proofs.YtohlmkcgempdlaaGreatDoorW.PrintLast Go.Proofs.YtohlmkcgempdlaaGreatDoorW.PrintMore
attribute [local go_sem] max2_int min2_int max_two min_two max_three min_three max_four min_four 
set_option linter.unusedVariables false
set_option linter.unusedSimpArgs false
set_option maxRecDepth 100000
def ratchetlaw15_open.f (k : Nat) (l0_0 : List (S132)) (l0_1 : List Int) (l0_2 : List (S214)) (l0_3 : List (S212)) (l0_4 : List (S292)) (l0_5 : List Int) (l0_6 : List (S39)) (a0_7 : Int) (l0_8 : List Bool) : Option (Bool) := (ratchetref05_Closed.f k l0_0).bind fun bt146 => (some (bt146.2 != 0))
set_option maxHeartbeats 8000000 in
theorem ratchetlaw15_open.calls (k : Nat) (A0_0 : Option Addr) (c0_0 : Nat) (l0_0 : List (S132)) (A0_1 : Option Addr) (c0_1 : Nat) (l0_1 : List Int) (A0_2 : Option Addr) (c0_2 : Nat) (l0_2 : List (S214)) (A0_3 : Option Addr) (c0_3 : Nat) (l0_3 : List (S212)) (A0_4 : Option Addr) (c0_4 : Nat) (l0_4 : List (S292)) (A0_5 : Option Addr) (c0_5 : Nat) (l0_5 : List Int) (A0_6 : Option Addr) (c0_6 : Nat) (l0_6 : List (S39)) (a0_7 : Int) (A0_8 : Option Addr) (c0_8 : Nat) (l0_8 : List Bool) (r : Bool) (w : World) (hr0_0 : Kd.C k132 w A0_0 l0_0.length l0_0) (hc0_0 : l0_0.length ≤ c0_0) (hr0_1 : Kd.C (Kd.int .i64) w A0_1 l0_1.length l0_1) (hc0_1 : l0_1.length ≤ c0_1) (hr0_2 : Kd.C k214 w A0_2 l0_2.length l0_2) (hc0_2 : l0_2.length ≤ c0_2) (hr0_3 : Kd.C k212 w A0_3 l0_3.length l0_3) (hc0_3 : l0_3.length ≤ c0_3) (hr0_4 : Kd.C k292 w A0_4 l0_4.length l0_4) (hc0_4 : l0_4.length ≤ c0_4) (hr0_5 : Kd.C (Kd.int .i64) w A0_5 l0_5.length l0_5) (hc0_5 : l0_5.length ≤ c0_5) (hr0_6 : Kd.C k39 w A0_6 l0_6.length l0_6) (hc0_6 : l0_6.length ≤ c0_6) (hr0_8 : Kd.C Kd.bool w A0_8 l0_8.length l0_8) (hc0_8 : l0_8.length ≤ c0_8) (h : ratchetlaw15_open.f k l0_0 l0_1 l0_2 l0_3 l0_4 l0_5 l0_6 a0_7 l0_8 = some r) :
  Calls Tryz.prog 8 #[.agg #[.slice A0_0 l0_0.length c0_0, .slice A0_1 l0_1.length c0_1, .slice A0_2 l0_2.length c0_2, .slice A0_3 l0_3.length c0_3, .slice A0_4 l0_4.length c0_4, .slice A0_5 l0_5.length c0_5, .slice A0_6 l0_6.length c0_6, .int .i64 a0_7, .slice A0_8 l0_8.length c0_8]] w fun e w' => e = .returned (.bool r) ∧ Below w.heap.size w w' := by
 have hu30 := Tryz.underlying30
 have HR0_0 := Aside0.mk hr0_0
 have HC0_0 := Aside0.mk hc0_0
 clear hr0_0 hc0_0
 have HR0_1 := Aside0.mk hr0_1
 have HC0_1 := Aside0.mk hc0_1
 clear hr0_1 hc0_1
 have HR0_2 := Aside0.mk hr0_2
 have HC0_2 := Aside0.mk hc0_2
 clear hr0_2 hc0_2
 have HR0_3 := Aside0.mk hr0_3
 have HC0_3 := Aside0.mk hc0_3
 clear hr0_3 hc0_3
 have HR0_4 := Aside0.mk hr0_4
 have HC0_4 := Aside0.mk hc0_4
 clear hr0_4 hc0_4
 have HR0_5 := Aside0.mk hr0_5
 have HC0_5 := Aside0.mk hc0_5
 clear hr0_5 hc0_5
 have HR0_6 := Aside0.mk hr0_6
 have HC0_6 := Aside0.mk hc0_6
 clear hr0_6 hc0_6
 have HR0_8 := Aside0.mk hr0_8
 have HC0_8 := Aside0.mk hc0_8
 clear hr0_8 hc0_8
 have HB := Aside0.mk (Below.refl w.heap.size w)
 have H : ((ratchetref05_Closed.f k l0_0).bind fun bt146 => (some (bt146.2 != 0))) = some r := h
 clear h
 replace H := Option.bind_eq_some_iff.mp H
 obtain ⟨⟨t146, t147⟩, A20, H⟩ := H
 replace H : (some (t147 != 0)) = some r := H
 have A2 := Aside0.mk A20
 clear A20
 obtain rfl := Option.some.inj H
 go_enter Tryz.func8, Tryz.ntmps8
 go_wp2_with (first | ((with_reducible refine gate_dst (N := 1) rfl ?_); refine box_event ?hg (N := 1) ?hd (cs := #[.slice A0_0 l0_0.length c0_0, .slice A0_1 l0_1.length c0_1, .slice A0_2 l0_2.length c0_2, .slice A0_3 l0_3.length c0_3, .slice A0_4 l0_4.length c0_4, .slice A0_5 l0_5.length c0_5, .slice A0_6 l0_6.length c0_6, .int .i64 a0_7, .slice A0_8 l0_8.length c0_8]) (t := 30) ?hr ?_; (case hd => rfl); (case hg => rfl); (case hr => first | (go_simp; done) | (go_simp; rfl)); intro gb145 hg w3 hbox hb; have n0_ := Aside0.mk (below_step (hz_) hb); have n1_ := Aside0.mk (hbox); have n2_ := Aside0.mk ((by rw [hg]; exact (below_size (hz_)) : w.heap.size ≤ gb145)); have n3_ := Aside0.mk ((by rw [hg]; exact (below_size (hz_)) : w.heap.size ≤ gb145)); clear HB; have HB := n0_; have BK145 := n1_; have GW145 := n2_; have GE145 := n3_; clear n0_ n1_ n2_ n3_; clear hb hbox hg; have hcz4_0 : w3.cell? ⟨gb145, 0, none⟩ = some (.slice A0_0 l0_0.length c0_0) := (blk_cell BK145.out 0).trans rfl; have hcz4_1 : w3.cell? ⟨gb145, 1, none⟩ = some (.slice A0_1 l0_1.length c0_1) := (blk_cell BK145.out 1).trans rfl; have hcz4_2 : w3.cell? ⟨gb145, 2, none⟩ = some (.slice A0_2 l0_2.length c0_2) := (blk_cell BK145.out 2).trans rfl; have hcz4_3 : w3.cell? ⟨gb145, 3, none⟩ = some (.slice A0_3 l0_3.length c0_3) := (blk_cell BK145.out 3).trans rfl; have hcz4_4 : w3.cell? ⟨gb145, 4, none⟩ = some (.slice A0_4 l0_4.length c0_4) := (blk_cell BK145.out 4).trans rfl; have hcz4_5 : w3.cell? ⟨gb145, 5, none⟩ = some (.slice A0_5 l0_5.length c0_5) := (blk_cell BK145.out 5).trans rfl; have hcz4_6 : w3.cell? ⟨gb145, 6, none⟩ = some (.slice A0_6 l0_6.length c0_6) := (blk_cell BK145.out 6).trans rfl; have hcz4_7 : w3.cell? ⟨gb145, 7, none⟩ = some (.int .i64 a0_7) := (blk_cell BK145.out 7).trans rfl; have hcz4_8 : w3.cell? ⟨gb145, 8, none⟩ = some (.slice A0_8 l0_8.length c0_8) := (blk_cell BK145.out 8).trans rfl; have hfz4_0 := blk_frozen BK145.out 0; have hfz4_1 := blk_frozen BK145.out 1; have hfz4_2 := blk_frozen BK145.out 2; have hfz4_3 := blk_frozen BK145.out 3; have hfz4_4 := blk_frozen BK145.out 4; have hfz4_5 := blk_frozen BK145.out 5; have hfz4_6 := blk_frozen BK145.out 6; have hfz4_7 := blk_frozen BK145.out 7; have hfz4_8 := blk_frozen BK145.out 8) | ((with_reducible refine gate_callee (f := 28) rfl ?_); refine goesL_ (some 8) rfl rfl Tryz.func28 (by kernel_rfl) rfl #[.slice A0_0 l0_0.length c0_0] rfl (by (try simp only [List.map_toArray, List.map_cons, List.map_nil]); first | done | rfl | (simp only [List.length_drop, List.length_take]; rfl)) ?_; (with_reducible refine (ratchetref05_Closed.calls k _ _ l0_0 t146 t147 _ ?side1 ?side2 A2.out).mono ?_); (case side1 => repeat (first | exact (Kd.C_below HR0_0.out HB.out) | (with_reducible refine Kd.C_alloc ?_ _) | (with_reducible refine Kd.C_drewN ?_ _) | (with_reducible refine Kd.C_drew ?_))); (case side2 => exact HC0_0.out); rintro e w5 ⟨rfl, hb⟩; refine ⟨_, rfl, ?_⟩; have n0_ := Aside0.mk (blk_below (g := gb145) (o := .cells #[.slice A0_0 l0_0.length c0_0, .slice A0_1 l0_1.length c0_1, .slice A0_2 l0_2.length c0_2, .slice A0_3 l0_3.length c0_3, .slice A0_4 l0_4.length c0_4, .slice A0_5 l0_5.length c0_5, .slice A0_6 l0_6.length c0_6, .int .i64 a0_7, .slice A0_8 l0_8.length c0_8] 30 (0, 0)) (by (with_reducible repeat (first | refine blk_drewN ?_ _ | refine blk_drew ?_ | refine blk_alloc ?_ _)); exact BK145.out) hb); have n1_ := Aside0.mk (below_step (by repeat (first | (with_reducible first | exact HB.out | apply below_alloc | apply pw_below_drewN | apply below_drew1 | refine below_set ?_ GE145.out) | exact HB.out)) hb); clear BK145; clear HB; have BK145 := n0_; have HB := n1_; clear n0_ n1_; (try clear hb); (try clear hb2); (try clear hk); (try clear hi)))
 go_ret
 exact ⟨by first | rfl | (simp [errW_none, errW_some] <;> rfl) | (simp [*, errW_none, errW_some] <;> rfl), by repeat (first | (with_reducible first | exact HB.out | apply below_alloc | apply pw_below_drewN | apply below_drew1 | refine below_set ?_ GE145.out) | exact HB.out)⟩
end Go.Proofs.YtohlmkcgempdlaaGreatDoor.QD
namespace Go.Proofs.YtohlmkcgempdlaaGreatDoor.Cn
set_option linter.unusedSimpArgs false
set_option maxRecDepth 100000
set_option linter.unusedVariables false
open Go.RowKit Go.Maps Go.Proofs.YtohlmkcgempdlaaGreatDoorW.PrintWords Go.Proofs.YtohlmkcgempdlaaGreatDoorW.PrintLast Go.Proofs.YtohlmkcgempdlaaGreatDoorW.PrintMore Go.Proofs.YtohlmkcgempdlaaGreatDoor.QD
theorem lopen_calls (X : CX) {w : World} (hx : XIn w X.A0 X.c0 X.l0 X.A1 X.c1 X.l1 X.A2 X.c2 X.l2 X.A3 X.c3 X.l3 X.A4 X.c4 X.l4 X.A5 X.c5 X.l5 X.A6 X.c6 X.l6 X.d7 X.A8 X.c8 X.l8) (hw : wL X.l0 + X.l0.length ≤ 1048576) : Calls Tryz.prog 8 #[.agg #[.slice X.A0 X.l0.length X.c0, .slice X.A1 X.l1.length X.c1, .slice X.A2 X.l2.length X.c2, .slice X.A3 X.l3.length X.c3, .slice X.A4 X.l4.length X.c4, .slice X.A5 X.l5.length X.c5, .slice X.A6 X.l6.length X.c6, .int .i64 X.d7, .slice X.A8 X.l8.length X.c8]] w fun e w' => (∃ b, e = .returned (.bool b) ∧ (b = false ↔ Clo X.l0)) ∧ Below w.heap.size w w' := by
 obtain ⟨n, er, hf, ho⟩ := r5closed X.l0 (by omega) (by omega) _ (Nat.le_refl _)
 refine (ratchetlaw15_open.calls _ X.A0 X.c0 X.l0 X.A1 X.c1 X.l1 X.A2 X.c2 X.l2 X.A3 X.c3 X.l3 X.A4 X.c4 X.l4 X.A5 X.c5 X.l5 X.A6 X.c6 X.l6 X.d7 X.A8 X.c8 X.l8 (er != 0) w hx.r0 hx.h0 hx.r1 hx.h1 hx.r2 hx.h2 hx.r3 hx.h3 hx.r4 hx.h4 hx.r5 hx.h5 hx.r6 hx.h6 hx.r8 hx.h8 (by unfold ratchetlaw15_open.f; rw [hf]; rfl)).mono ?_
 rintro e w' ⟨rfl, hb⟩
 refine ⟨⟨_, rfl, fun h => ?_, fun h => ?_⟩, hb⟩
 ·by_cases hc : Clo X.l0
  ·exact hc
  ·have := ho.no hc
   rw [this] at h
   exact absurd h (by decide)
 ·rw [(ho.yes h).2]
  rfl
section
variable {w : World} {l0 : List S132} {AP : Option Addr} {cP : Nat} {ps : List S39} {AL : Option Addr} {cL : Nat} {ls : List S39} {AR : Option Addr} {cR : Nat} {rs : List S39} {AD : Option Addr} {cD : Nat} {dp : List (List S39)} {AS : Option Addr} {cS : Nat} {st : List S39} {dead : Bool}
theorem frs0_mem {rs : List S39} {sets : List Bool} {dp : List (List S39)} (hr : rs.length ≤ 1048576) (ht : ∀ t ∈ dp, t.length ≤ 1048576) : ∀ x ∈ frs0 rs sets dp, x.ins.length ≤ 1048576 ∧ x.outs.length ≤ 1048576 := by
 intro x hx
 unfold frs0 at hx
 rcases List.mem_cons.1 hx with h | h
 ·rw [h]
  exact ⟨Nat.zero_le _, hr⟩
 ·obtain ⟨t, h1, rfl⟩ := List.mem_map.1 h
  exact ⟨Nat.zero_le _, ht t h1⟩
/-- What begin makes fits; all of its frames begin at nothing. -/
theorem begK_fit (hg : GOk l0) (hw : WRows w AP cP ps AL cL ls AR cR rs AD cD dp AS cS st) (dead : Bool) : ∃ f, Fit (begK l0 ps ls rs dp st dead) f ∧ f.height = 0 ∧ f.dead = dead := by
 obtain ⟨f, hf, h0, hd⟩ := frs0_last rs (setsM ps.length (ps ++ ls)) dp
 have hm := frs0_mem (sets := setsM ps.length (ps ++ ls)) hw.br hw.bt
 have hln : (frs0 rs (setsM ps.length (ps ++ ls)) dp).length ≤ 1048577 := by rw [frs0_length]; have := hw.bd; omega
 have hbs := hw.bs
 cases dead with
 | false => exact ⟨f, ⟨hg, hf, by rw [h0]; exact Nat.zero_le _, by dsimp only [begK]; omega, by dsimp only [begK]; rw [if_neg (by simp)]; omega, hm, hw.br⟩, h0, hd⟩
 | true =>
  refine ⟨{ f with dead := true }, ⟨hg, ?_, by dsimp only; rw [h0]; exact Nat.zero_le _, by dsimp only [begK]; omega, ?_, ?_, hw.br⟩, h0, rfl⟩
  ·dsimp only [begK]
   rw [if_pos rfl, killL_of hf]
   exact set_last _ _ (by rw [frs0_length]; omega)
  ·dsimp only [begK]
   rw [if_pos rfl, killL_of hf, List.length_set]
   omega
  ·intro x hx
   dsimp only [begK] at hx
   rw [if_pos rfl, killL_of hf] at hx
   rcases List.mem_or_eq_of_mem_set hx with h | h
   ·exact hm x h
   ·rw [h]
    exact hm f (List.mem_of_getElem? hf)
theorem begK_lab (l0 : List S132) (ps ls rs : List S39) (dp : List (List S39)) (st : List S39) (dead : Bool) (n : Nat) : labM (begK l0 ps ls rs dp st dead).frames n = labM (frs0 rs (setsM ps.length (ps ++ ls)) dp) n := by
 cases dead with
 | false => rfl
 | true => exact labM_kill _ n
end
/-- What the laws' arguments are. -/
structure LI (w : World) (X : CX) (I : IX) (AP : Option Addr) (cP : Nat) (ps : List S39) (AL : Option Addr) (cL : Nat) (ls : List S39) (AR : Option Addr) (cR : Nat) (rs : List S39) (AD : Option Addr) (cD : Nat) (dp : List (List S39)) (AS : Option Addr) (cS : Nat) (st : List S39) : Prop where
 x : XIn w X.A0 X.c0 X.l0 X.A1 X.c1 X.l1 X.A2 X.c2 X.l2 X.A3 X.c3 X.l3 X.A4 X.c4 X.l4 X.A5 X.c5 X.l5 X.A6 X.c6 X.l6 X.d7 X.A8 X.c8 X.l8
 wr : WRows w AP cP ps AL cL ls AR cR rs AD cD dp AS cS st
 lin : LIn X.l0
 bw : wL X.l0 + X.l0.length ≤ 1048576
 rts : RTs X.l0
 f64 : ∀ n ∈ X.l1, NV64 n
 t64 : ∀ n ∈ X.l5, NV64 n
 lab : Kd.C (Kd.int .u32) w I.AL I.ls.length I.ls
 hl : I.ls.length ≤ I.cL
 lb : I.ls.length ≤ 1048576
 l32 : ∀ n ∈ I.ls, 0 ≤ n ∧ n ≤ 4294967295
 x32 : I.x ≤ 4294967295
 y32 : I.y ≤ 4294967295
 op : NV64 I.op
 tab : Lib.TabBelow Tryz.prog w.heap.size w "internal/strconv.uint64pow10" .u64 Lib.pow10Tab
section
variable {w w' : World} {X : CX} {I : IX} {AP : Option Addr} {cP : Nat} {ps : List S39} {AL : Option Addr} {cL : Nat} {ls : List S39} {AR : Option Addr} {cR : Nat} {rs : List S39} {AD : Option Addr} {cD : Nat} {dp : List (List S39)} {AS : Option Addr} {cS : Nat} {st : List S39} {dead : Bool}
theorem LI.xk (h : LI w X I AP cP ps AL cL ls AR cR rs AD cD dp AS cS st) : XK w X I := ⟨h.x, h.lab, h.hl, h.lb, h.l32, h.f64, h.t64, h.x32, h.y32⟩
theorem LI.gok (h : LI w X I AP cP ps AL cL ls AR cR rs AD cD dp AS cS st) (hc : Clo X.l0) : GOk X.l0 := ⟨hc, h.lin, h.bw⟩
end
end Go.Proofs.YtohlmkcgempdlaaGreatDoor.Cn
namespace Go.Proofs.YtohlmkcgempdlaaGreatDoor.Cx
set_option linter.unusedSimpArgs false
set_option maxRecDepth 100000
set_option linter.unusedVariables false
open Go.RowKit Go.Maps Go.Proofs.YtohlmkcgempdlaaGreatDoorW.PrintWords Go.Proofs.YtohlmkcgempdlaaGreatDoorW.PrintLast Go.Proofs.YtohlmkcgempdlaaGreatDoor.QD Go.Proofs.YtohlmkcgempdlaaGreatDoor.Opb Go.Proofs.YtohlmkcgempdlaaGreatDoor.Cn
theorem oInts64 : Opb Tryz.prog 23 (Kd.slice 3 (Kd.int .i64)) (fun xs => ∀ n ∈ xs, NV64 n) (fun xs => xs.length) := (Opb.slice Tryz.underlying23 (by kernel_rfl) ((Opb.int Tryz.underlying3 (by kernel_rfl)).imp (fun _ h => NV64_of_wf h) (fun _ => Nat.le_refl _))).imp (fun _ h => h) (fun _ => by rw [o_ones]; omega)
theorem oVTs1 : Opb Tryz.prog 27 (Kd.slice 39 k39) (fun _ => True) (fun xs => xs.length + 1) := (Opb.slice Tryz.underlying27 (by kernel_rfl) oVT).imp (fun _ _ => trivial) (fun _ => by rw [o_ones]; omega)
theorem oVTss : Opb Tryz.prog 31 (Kd.slice 27 (Kd.slice 39 k39)) (fun _ => True) (fun xs => (xs.map fun t => t.length + 1).sum) := (Opb.slice Tryz.underlying31 (by kernel_rfl) oVTs1).imp (fun _ _ => trivial) (fun _ => by omega)
theorem oCtxG : Opb Tryz.prog 30 kCtx (fun x => LIn x.1 ∧ (∀ n ∈ x.2.1, NV64 n) ∧ ∀ n ∈ x.2.2.2.2.2.1, NV64 n) (fun x => wLL x.1) :=
 (Opb.struct Tryz.underlying30 (by kernel_rfl) (OpbF.cons opbRTs rfl rfl (OpbF.cons oInts64 rfl rfl (OpbF.cons oTTs rfl rfl (OpbF.cons oLims rfl rfl (OpbF.cons oGTs rfl rfl (OpbF.cons oInts64 rfl rfl (OpbF.cons oVTs rfl rfl (OpbF.cons oInt rfl rfl (OpbF.last oBools rfl)))))))))).imp (fun _ h => ⟨h.1, h.2.1, h.2.2.2.2.2.1⟩) (fun _ => by omega)
abbrev kWhere := Kd.pair kCtx (Kd.pair (Kd.slice 39 k39) (Kd.pair (Kd.slice 39 k39) (Kd.pair (Kd.slice 39 k39) (Kd.pair (Kd.slice 27 (Kd.slice 39 k39)) (Kd.pair (Kd.slice 39 k39) Kd.bool)))))
theorem oWhere : Opb Tryz.prog 33 kWhere (fun x => LIn x.1.1 ∧ (∀ n ∈ x.1.2.1, NV64 n) ∧ ∀ n ∈ x.1.2.2.2.2.2.1, NV64 n) (fun x => wLL x.1.1 + x.2.1.length + x.2.2.1.length + x.2.2.2.1.length + (x.2.2.2.2.1.map fun t => t.length + 1).sum + x.2.2.2.2.2.1.length) :=
 (Opb.struct Tryz.underlying33 (by kernel_rfl) (OpbF.cons oCtxG rfl rfl (OpbF.cons oVTs rfl rfl (OpbF.cons oVTs rfl rfl (OpbF.cons oVTs rfl rfl (OpbF.cons oVTss rfl rfl (OpbF.cons oVTs rfl rfl (OpbF.last oBool rfl)))))))).imp (fun _ h => h.1) (fun _ => by omega)
theorem vL_eq (l : List S132) : vL l = wLL l := rfl
theorem sum_len {α : Type} (l : List (List α)) : l.length ≤ (l.map fun t => t.length + 1).sum ∧ ∀ t ∈ l, t.length ≤ (l.map fun t => t.length + 1).sum := by
 induction l with
 | nil => exact ⟨Nat.le_refl _, fun _ h => by cases h⟩
 | cons x l ih =>
  simp only [List.map_cons, List.sum_cons, List.length_cons]
  refine ⟨by omega, fun t ht => ?_⟩
  rcases List.mem_cons.1 ht with rfl | ht
  ·omega
  ·have := ih.2 t ht
   omega
theorem where_open {W : World} {x : (List S132 × List Int × List S214 × List S212 × List S292 × List Int × List S39 × Int × List Bool) × List S39 × List S39 × List S39 × List (List S39) × List S39 × Bool} {cs : List Value} (h : kWhere.K W x cs)
  (hb : wLL x.1.1 + x.2.1.length + x.2.2.1.length + x.2.2.2.1.length + (x.2.2.2.2.1.map fun t => t.length + 1).sum + x.2.2.2.2.2.1.length ≤ 1048576) :
  ∃ (A0 : Option Addr) (c0 : Nat) (l0 : List S132) (A1 : Option Addr) (c1 : Nat) (l1 : List Int) (A2 : Option Addr) (c2 : Nat) (l2 : List S214) (A3 : Option Addr) (c3 : Nat) (l3 : List S212) (A4 : Option Addr) (c4 : Nat) (l4 : List S292) (A5 : Option Addr) (c5 : Nat) (l5 : List Int) (A6 : Option Addr) (c6 : Nat) (l6 : List S39) (d7 : Int) (A8 : Option Addr) (c8 : Nat) (l8 : List Bool) (AP : Option Addr) (cP : Nat) (ps : List S39) (AL : Option Addr) (cL : Nat) (ls : List S39) (AR : Option Addr) (cR : Nat) (rs : List S39) (AD : Option Addr) (cD : Nat) (dp : List (List S39)) (AS : Option Addr) (cS : Nat) (st : List S39) (dead : Bool), cs = [.slice A0 l0.length c0, .slice A1 l1.length c1, .slice A2 l2.length c2, .slice A3 l3.length c3, .slice A4 l4.length c4, .slice A5 l5.length c5, .slice A6 l6.length c6, .int .i64 d7, .slice A8 l8.length c8, .slice AP ps.length cP, .slice AL ls.length cL, .slice AR rs.length cR, .slice AD dp.length cD, .slice AS st.length cS, .bool dead] ∧ x.1.1 = l0 ∧ x.1.2.1 = l1 ∧ x.1.2.2.2.2.2.1 = l5 ∧ XIn W A0 c0 l0 A1 c1 l1 A2 c2 l2 A3 c3 l3 A4 c4 l4 A5 c5 l5 A6 c6 l6 d7 A8 c8 l8 ∧ WRows W AP cP ps AL cL ls AR cR rs AD cD dp AS cS st := by
 obtain ⟨_, _, rfl, hc, _, _, rfl, ⟨AP, cP, rfl, hP, CP⟩, _, _, rfl, ⟨AL, cL, rfl, hL, CL⟩, _, _, rfl, ⟨AR, cR, rfl, hR, CR_⟩, _, _, rfl, ⟨AD, cD, rfl, hD, CD⟩, _, _, rfl, ⟨AS, cS, rfl, hS, CS⟩, rfl⟩ := h
 obtain ⟨_, _, rfl, ⟨A0, c0, rfl, h0, C0⟩, _, _, rfl, ⟨A1, c1, rfl, h1, C1⟩, _, _, rfl, ⟨A2, c2, rfl, h2, C2⟩, _, _, rfl, ⟨A3, c3, rfl, h3, C3⟩, _, _, rfl, ⟨A4, c4, rfl, h4, C4⟩, _, _, rfl, ⟨A5, c5, rfl, h5, C5⟩, _, _, rfl, ⟨A6, c6, rfl, h6, C6⟩, _, _, rfl, rfl, ⟨A8, c8, rfl, h8, C8⟩⟩ := hc
 have hs := sum_len x.2.2.2.2.1
 refine ⟨A0, c0, _, A1, c1, _, A2, c2, _, A3, c3, _, A4, c4, _, A5, c5, _, A6, c6, _, _, A8, c8, _, AP, cP, _, AL, cL, _, AR, cR, _, AD, cD, _, AS, cS, _, _, rfl, rfl, rfl, rfl, ⟨C0, h0, C1, h1, C2, h2, C3, h3, C4, h4, C5, h5, C6, h6, C8, h8, by rw [vL_eq]; omega⟩, ⟨CP, hP, CL, hL, CR_, hR, CD, hD, CS, hS, by omega, by omega, by omega, by omega, by omega, fun t ht => by have := hs.2 t ht; omega⟩⟩
theorem wS_le (s : S123) : s.f1.length ≤ wS s ∧ s.f2.f1.length ≤ wS s ∧ s.f2.f2.length ≤ wS s ∧ s.f2.f3.length ≤ wS s := by unfold wS; omega
theorem mem_sum {α : Type} (f : α → Nat) (l : List α) (x : α) (h : x ∈ l) : f x ≤ (l.map f).sum := by
 induction l with
 | nil => cases h
 | cons y l ih =>
  simp only [List.map_cons, List.sum_cons]
  rcases List.mem_cons.1 h with rfl | h
  ·omega
  ·have := ih h
   omega
theorem len_sum {α : Type} (f : α → Nat) (hf : ∀ x, 1 ≤ f x) (l : List α) : l.length ≤ (l.map f).sum := by
 induction l with
 | nil => exact Nat.le_refl _
 | cons y l ih =>
  simp only [List.map_cons, List.sum_cons, List.length_cons]
  have := hf y
  omega
/-- Groups of a bulk that is bounded. -/
theorem rts_of {l : List S132} (h : wLL l ≤ 1048576) : RTs l := by
 unfold wLL at h
 refine ⟨Nat.le_trans (len_sum _ (fun _ => Nat.le_add_left _ _) l) h, fun r hr => ?_⟩
 have h1 := mem_sum (fun r => wG r.f0 + 1) l r hr
 have h2 : r.f0.length ≤ wG r.f0 := len_sum wS (fun s => by unfold wS; omega) r.f0
 refine ⟨by omega, fun s hs => ?_⟩
 have h3 : wS s ≤ wG r.f0 := mem_sum wS r.f0 s hs
 have h4 := wS_le s
 exact ⟨by omega, by omega, by omega, by omega⟩
/-- A slice that nobody looks into. -/
theorem opb_blind {P : Program} {t e : TypeId} (hu : P.underlying t = some (.slice e)) (hc : P.cellsOf t = 1) : Opb P t (Kd.raw 1) (fun _ => True) (fun _ => 0) := by
 refine ⟨hc, ?_⟩
 intro H enc W base spare held fuel cs dd ps h
 cases fuel with
 | zero => simp [DataW.trod] at h
 | succ fuel =>
  unfold DataW.trod at h
  rw [hu] at h
  match cs, h with
  | [.slice none 0 0], h => exact ⟨[.slice none 0 0], ⟨rfl, rfl, by simp [Value.oneCell']⟩, trivial, Nat.zero_le _⟩
  | [.slice (some a) len cap], h => exact ⟨[.slice (some a) len cap], ⟨rfl, rfl, by simp [Value.oneCell']⟩, trivial, Nat.zero_le _⟩
theorem oU32 : Opb Tryz.prog 34 (Kd.int .u32) (fun x => 0 ≤ x ∧ x ≤ 4294967295) (fun _ => 1) := (Opb.int (by kernel_rfl) (by kernel_rfl)).imp (fun _ h => by simp only [Lit.wf, Bool.and_eq_true, decide_eq_true_eq] at h; exact h) (fun _ => Nat.le_refl _)
theorem oU64 : Opb Tryz.prog 35 (Kd.int .u64) (fun _ => True) (fun _ => 0) := (Opb.int (by kernel_rfl) (by kernel_rfl)).imp (fun _ _ => trivial) (fun _ => Nat.zero_le _)
theorem oU32s : Opb Tryz.prog 43 (Kd.slice 34 (Kd.int .u32)) (fun xs => ∀ x ∈ xs, 0 ≤ x ∧ x ≤ 4294967295) (fun xs => xs.length) := (Opb.slice (by kernel_rfl) (by kernel_rfl) oU32).imp (fun _ h => h) (fun _ => by rw [o_ones]; omega)
abbrev kMem := Kd.pair (Kd.int .u32) (Kd.pair (Kd.int .u32) (Kd.int .u64))
theorem oMem : Opb Tryz.prog 37 kMem (fun _ => True) (fun _ => 0) := (Opb.struct Tryz.underlying37 (by kernel_rfl) (OpbF.cons oU32 rfl rfl (OpbF.cons oU32 rfl rfl (OpbF.last oU64 rfl)))).imp (fun _ _ => trivial) (fun _ => Nat.zero_le _)
abbrev kInstr := Kd.pair (Kd.int .i64) (Kd.pair (Kd.int .u32) (Kd.pair (Kd.int .u32) (Kd.pair (Kd.int .u64) (Kd.pair kMem (Kd.pair kBlock (Kd.pair (Kd.raw 1) (Kd.pair (Kd.raw 1) (Kd.pair Kd.bool (Kd.pair (Kd.slice 34 (Kd.int .u32)) (Kd.pair (Kd.raw 1) (Kd.raw 1)))))))))))
theorem oInstr : Opb Tryz.prog 46 kInstr (fun x => (0 ≤ x.2.1 ∧ x.2.1 ≤ 4294967295) ∧ (0 ≤ x.2.2.1 ∧ x.2.2.1 ≤ 4294967295) ∧ (∀ n ∈ x.2.2.2.2.2.2.2.2.2.1, 0 ≤ n ∧ n ≤ 4294967295) ∧ NV64 x.1) (fun x => x.2.2.2.2.2.2.2.2.2.1.length) :=
 (Opb.struct Tryz.underlying46 (by kernel_rfl) (OpbF.cons ((Opb.int Tryz.underlying3 (by kernel_rfl)).imp (B' := NV64) (bk' := fun _ => 0) (fun _ h => NV64_of_wf h) (fun _ => Nat.zero_le _)) rfl rfl (OpbF.cons oU32 rfl rfl (OpbF.cons oU32 rfl rfl (OpbF.cons oU64 rfl rfl (OpbF.cons oMem rfl rfl (OpbF.cons oBlock rfl rfl (OpbF.cons (opb_blind Tryz.underlying42 (by kernel_rfl)) rfl rfl (OpbF.cons (opb_blind Tryz.underlying42 (by kernel_rfl)) rfl rfl (OpbF.cons oBool rfl rfl (OpbF.cons oU32s rfl rfl (OpbF.cons (opb_blind Tryz.underlying27 (by kernel_rfl)) rfl rfl (OpbF.last (opb_blind Tryz.underlying44 (by kernel_rfl)) rfl))))))))))))).imp (fun _ h => ⟨h.2.1, h.2.2.1, h.2.2.2.2.2.2.2.2.2.1, h.1⟩) (fun _ => by omega)
theorem one_cell {xs : List Value} (h : xs.length = 1) : ∃ v, xs = [v] := by
 match xs, h with
 | [v], _ => exact ⟨v, rfl⟩
theorem instr_open {W : World} {x : Int × Int × Int × Int × (Int × Int × Int) × (Int × S39) × List Value × List Value × Bool × List Int × List Value × List Value} {cs : List Value} (h : kInstr.K W x cs)
  (hx : 0 ≤ x.2.1 ∧ x.2.1 ≤ 4294967295) (hy : 0 ≤ x.2.2.1 ∧ x.2.2.1 ≤ 4294967295) :
  ∃ I : IX, cs = [.int .i64 I.op, .int .u32 I.x, .int .u32 I.y, I.v3, I.v4, I.v5, I.v6, I.v7, I.v8, I.v9, I.v10, I.v11, I.v12, I.v13, .slice I.AL I.ls.length I.cL, I.v15, I.v16] ∧ I.op = x.1 ∧ I.x ≤ 4294967295 ∧ I.y ≤ 4294967295 ∧ I.ls = x.2.2.2.2.2.2.2.2.2.1 ∧ Kd.C (Kd.int .u32) W I.AL I.ls.length I.ls ∧ I.ls.length ≤ I.cL := by
 obtain ⟨x0, x1, x2, x3, xm, xb, x6, x7, x8, x9, x10, x11⟩ := x
 obtain ⟨_, _, rfl, rfl, _, _, rfl, rfl, _, _, rfl, rfl, _, _, rfl, rfl, _, _, rfl, hm, _, _, rfl, hbk, _, _, rfl, h6, _, _, rfl, h7, _, _, rfl, rfl, _, _, rfl, ⟨AL, cL, rfl, hl, hC⟩, _, _, rfl, h10, h11⟩ := h
 obtain ⟨_, _, rfl, rfl, _, _, rfl, rfl, rfl⟩ := hm
 obtain rfl := block_open hbk
 obtain ⟨rfl, l6, _⟩ := h6
 obtain ⟨rfl, l7, _⟩ := h7
 obtain ⟨rfl, l10, _⟩ := h10
 obtain ⟨rfl, l11, _⟩ := h11
 obtain ⟨v6, rfl⟩ := one_cell l6
 obtain ⟨v7, rfl⟩ := one_cell l7
 obtain ⟨v10, rfl⟩ := one_cell l10
 obtain ⟨v11, rfl⟩ := one_cell l11
 dsimp only at hx hy
 obtain ⟨n, hn⟩ := Int.eq_ofNat_of_zero_le hx.1
 obtain ⟨m, hm⟩ := Int.eq_ofNat_of_zero_le hy.1
 subst hn hm
 exact ⟨⟨x0, n, m, _, _, _, _, _, _, _, _, v6, v7, _, AL, x9, cL, v10, v11⟩, rfl, rfl, by dsimp only; omega, by dsimp only; omega, rfl, hC, hl⟩
theorem li_mk {W : World} {x : (List S132 × List Int × List S214 × List S212 × List S292 × List Int × List S39 × Int × List Bool) × List S39 × List S39 × List S39 × List (List S39) × List S39 × Bool} {y : Int × Int × Int × Int × (Int × Int × Int) × (Int × S39) × List Value × List Value × Bool × List Int × List Value × List Value} {X : CX} {I : IX} {AP : Option Addr} {cP : Nat} {ps : List S39} {AL : Option Addr} {cL : Nat} {ls : List S39} {AR : Option Addr} {cR : Nat} {rs : List S39} {AD : Option Addr} {cD : Nat} {dp : List (List S39)} {AS : Option Addr} {cS : Nat} {st : List S39}
  (b0 : LIn x.1.1 ∧ (∀ n ∈ x.1.2.1, NV64 n) ∧ ∀ n ∈ x.1.2.2.2.2.2.1, NV64 n) (e0 : x.1.1 = X.l0) (e1 : x.1.2.1 = X.l1) (e5 : x.1.2.2.2.2.2.1 = X.l5) (hx : XIn W X.A0 X.c0 X.l0 X.A1 X.c1 X.l1 X.A2 X.c2 X.l2 X.A3 X.c3 X.l3 X.A4 X.c4 X.l4 X.A5 X.c5 X.l5 X.A6 X.c6 X.l6 X.d7 X.A8 X.c8 X.l8) (hw : WRows W AP cP ps AL cL ls AR cR rs AD cD dp AS cS st) (hb : wLL x.1.1 ≤ 1048576)
  (b1 : (0 ≤ y.2.1 ∧ y.2.1 ≤ 4294967295) ∧ (0 ≤ y.2.2.1 ∧ y.2.2.1 ≤ 4294967295) ∧ (∀ n ∈ y.2.2.2.2.2.2.2.2.2.1, 0 ≤ n ∧ n ≤ 4294967295) ∧ NV64 y.1) (i0 : I.op = y.1) (ix : I.x ≤ 4294967295) (iy : I.y ≤ 4294967295) (il : I.ls = y.2.2.2.2.2.2.2.2.2.1) (hC : Kd.C (Kd.int .u32) W I.AL I.ls.length I.ls) (hl : I.ls.length ≤ I.cL) (hlb : y.2.2.2.2.2.2.2.2.2.1.length ≤ 1048576)
  (tab : Lib.TabBelow Tryz.prog W.heap.size W "internal/strconv.uint64pow10" .u64 Lib.pow10Tab) : LI W X I AP cP ps AL cL ls AR cR rs AD cD dp AS cS st := by
 rw [e0] at b0 hb
 rw [e1, e5] at b0
 exact ⟨hx, hw, b0.1, by rw [← wLL_eq]; exact hb, rts_of hb, b0.2.1, b0.2.2, hC, hl, by rw [il]; exact hlb, by rw [il]; exact b1.2.2.1, ix, iy, by rw [i0]; exact b1.2.2.2, tab⟩
end Go.Proofs.YtohlmkcgempdlaaGreatDoor.Cx
