/- Parts of the proof of vctlOpens_holds (21 of 22): what it says and shows stands at its declarations. -/
import Derived.Test.YtohlmkcgempdlaaGreatDoorZO20
namespace Go.Proofs.YtohlmkcgempdlaaGreatDoor.Cn
set_option linter.unusedSimpArgs false
set_option maxRecDepth 100000
set_option linter.unusedVariables false
open Go.RowKit Go.Maps Go.Proofs.YtohlmkcgempdlaaGreatDoorW.PrintWords Go.Proofs.YtohlmkcgempdlaaGreatDoorW.PrintLast Go.Proofs.YtohlmkcgempdlaaGreatDoorW.PrintMore Go.Proofs.YtohlmkcgempdlaaGreatDoor.QD
section
variable {E E' : Nat → Prop} {d : Nat} {k k' : Chk} {w : World}
theorem R13.more {W : World} {p : Nat} (h : R13 E d k w) (hb : Below w.heap.size w W) (hp : w.heap.size ≤ p) (hlt : p < W.heap.size) : R13 (fun x => E x ∨ x = p) d k W := by
 obtain ⟨vl, vlo, vs, vst, vf, vr, h⟩ := h
 exact ⟨vl, vlo, vs, vst, vf, vr, h.chg (Chg.of_below hb (fun _ => False)) (fun _ e => e.elim) (fun x e => e.elim .inl (fun e => .inr (by omega))) (.inl h.own) (fun x e => e.elim (fun e => Nat.lt_of_lt_of_le (h.lt x e) hb.size) (fun e => by omega))⟩
theorem R13.fewer (h : R13 E' d k w) (hs : ∀ x, E x → E' x) (hd : E d) : R13 E d k w := by
 obtain ⟨vl, vlo, vs, vst, vf, vr, h⟩ := h
 obtain ⟨B, b1, b2, b3⟩ := h.tab
 exact ⟨vl, vlo, vs, vst, vf, vr, h.box, h.lst.mono hs, h.loc.mono hs, h.set.mono hs, h.stk.mono hs, h.frs.mono hs, h.res.mono hs, hd, fun x e => h.lt x (hs x e), B, fun x e => b1 x (hs x e), b2, b3⟩
theorem R13.chgp {W : World} {p : Nat} (h : R13 E d k w) (c : Chg (fun x => x = p) w W) (hE : E p) (hp : p ≠ d) : R13 E d k W := by
 obtain ⟨vl, vlo, vs, vst, vf, vr, h⟩ := h
 exact ⟨vl, vlo, vs, vst, vf, vr, h.chg c (fun x e => .inl (by rw [e]; exact ⟨hE, hp⟩)) (fun _ e => .inl e) h.own (fun x e => Nat.lt_of_lt_of_le (h.lt x e) c.size)⟩
theorem RQ.cell {W W2 W3 : World} {p : Nat} (h0 : R13 E d k w) (hb : Below w.heap.size w W) (hp : w.heap.size ≤ p) (h : R13 (fun x => E x ∨ x = p) d k' W2) (hc : Chg (fun x => x = d) W W2) (hz : Chg (fun x => x = p) W2 W3) : R13 E d k' W3 ∧ Chg (fun x => x = d) w W3 :=
 ⟨(h.chgp hz (.inr rfl) (fun e => by have := h0.lt d h0.own; omega)).fewer (fun _ e => .inl e) h0.own, ((Chg.of_below hb (fun _ => False)).trans (K := fun x => x = d) hc (fun _ e => e.elim) (fun _ e => .inl e)).trans hz (fun _ e => .inl e) (fun x e => .inr (by omega))⟩
set_option maxHeartbeats 4000000 in
theorem qPop_yes (h : R13 E d k w) {f : Fr} (hf : k.frames[k.frames.length - 1]? = some f) (hh : f.height < k.ops.length) (hm : k.ops.length ≤ 4294967296) (hn : k.frames.length ≤ 4294967296) :
  Calls Tryz.prog 123 #[.pointer (some ⟨d, 0, none⟩)] w fun e w' => e = .returned (.tuple #[.agg #[.int .i64 (k.ops.getLastD v0).f0, .bool (k.ops.getLastD v0).f1, .int .i64 (k.ops.getLastD v0).f2], .int .i64 0]) ∧ R13 E d { k with ops := k.ops.dropLast } w' ∧ Chg (fun x => x = d) w w' := by
 obtain ⟨n, hon⟩ : ∃ n, k.ops.length = n + 1 := ⟨k.ops.length - 1, by omega⟩
 have hx := Au5 k.ops n hon
 have hdl := Au6 k.ops n hon
 rw [hdl]
 obtain ⟨x, hxe⟩ : ∃ x, x = k.ops.getLastD v0 := ⟨_, rfl⟩
 rw [← hxe] at hx ⊢
 have HXX := zA hx
 have HLN : Aa2 ((k.ops.take n).length = n) := ⟨by rw [List.length_take]; omega⟩
 clear hx hdl hxe
 have hbw : Below w.heap.size w (w.alloc (.cells #[.int .i64 0, .bool false, .int .i64 0] 39)) := bz_
 have G0 := zA h
 obtain ⟨vl, vlo, vs, vst, vf, vr, h1⟩ := h.more (p := w.heap.size) hbw (Nat.le_refl _) (by simp)
 obtain ⟨ad, m, cf, A1, c1, A2, c2, A4, c4_, rfl, hfm, hq⟩ := h1.top hf
 obtain ⟨As, cs, rfl⟩ := h1.stk.slice
 have H1 := zA h1
 have c4 := h1.c4
 have c3 := h1.c3
 have hht := hq.height
 have hde := hq.dead
 rw [hon] at c3
 have HQ := zA (And.intro hht hde)
 have HX := zA (And.intro hon (And.intro hm hn))
 have HFM := zA hfm
 have hm1 : m + 1 ≤ 4294967296 := by omega
 have hz : (((m + 1 : Nat) : Int) == 0) = false := beq_eq_false_iff_ne.mpr (by omega)
 have hz2 : ((m : Int) + 1 == 0) = false := beq_eq_false_iff_ne.mpr (by omega)
 have he : (((n + 1 : Nat) : Int) == (f.height : Int)) = false := beq_eq_false_iff_ne.mpr (by omega)
 have he2 : ((n : Int) + 1 == (f.height : Int)) = false := beq_eq_false_iff_ne.mpr (by omega)
 have hw : wrap64 (((n + 1 : Nat) : Int) - 1) = (n : Int) := by unfold wrap64; omega
 have hw2 : wrap64 (n : Int) = (n : Int) := by unfold wrap64; omega
 have hb1 : ((n : Int) < (n : Int) + 1) = True := by simp; omega
 have hb2 : ((n : Int) < ((n + 1 : Nat) : Int)) = True := by simp; omega
 have hr0 := Aa6 w (.cells #[.int .i64 0, .bool false, .int .i64 0] 39)
 have R0 := zA hr0
 have BW := zA hbw
 clear h h1 hf hfm hq hm hn hh hon hht hde hr0
 go_enter Tryz.func123, Tryz.ntmps123
 go_wp2_with fail
 obtain ⟨W, hW⟩ : ∃ W, W = w.alloc (.cells #[.int .i64 0, .bool false, .int .i64 0] 39) := ⟨_, rfl⟩
 rw [← hW] at H1 HQ R0 BW c3 c4 hbw ⊢
 clear hW hbw
 obtain ⟨w3, hw3⟩ : ∃ w3, World.drew W = w3 := ⟨_, rfl⟩
 have b3 : Below W.heap.size W w3 := by rw [← hw3]; exact (Below.refl _ _).drew
 have H3 := zA (H1.out.below b3)
 have B3 := zA b3
 have z3 : w3.cell? ⟨d, 3, none⟩ = some (.slice As (n + 1) cs) := by rw [← hw3]; exact c3
 have z4 : w3.cell? ⟨d, 4, none⟩ = some (.slice (some ad) (m + 1) cf) := by rw [← hw3]; exact c4
 have zh : w3.cell? ⟨(ad.add (m * 6)).block, (ad.add (m * 6)).off + 3, none⟩ = some (.int .i64 f.height) := by rw [← hw3]; exact HQ.out.1
 clear b3 c3 c4
 refine Ab3 (n := 11) (S := fun w' => w'.cell? ⟨d, 3, none⟩ = some (.slice As (n + 1) cs) ∧ w'.cell? ⟨d, 4, none⟩ = some (.slice (some ad) (m + 1) cf) ∧ w'.cell? ⟨(ad.add (m * 6)).block, (ad.add (m * 6)).off + 3, none⟩ = some (.int .i64 f.height)) (ds := []) (bm_ 11 0) (by kernel_rfl) rfl rfl ⟨(by rw [hw3]; exact z3), (by rw [hw3]; exact z4), (by rw [hw3]; exact zh)⟩ (fun hHeld => ?_)
 rw [hw3] at hHeld ⊢
 clear hw3 z3 z4 zh
 refine pz_ 0 12 11 1 ?_
 refine pz_ 1 13 11 3 ?_
 refine pz_ 2 14 11 7 ?_
 refine pz_ 5 17 11 39 ?_
 refine tz_ 3 15 11 47 hHeld ?_
 refine pz_ 4 16 11 63 ?_
 refine oz_ 6 18 11 127 fun K hK => ?_
 refine gz_ Tryz.func74 #[.pointer (some ⟨d, 0, none⟩)] ?_
 with_reducible refine (Al9 m cf ad w3 hHeld.2.1 hm1).mono ?_
 rintro e w4 ⟨rfl, hb_⟩
 have H4 := zA (H3.out.below hb_)
 have B4 := zA (B3.out.trans (hb_.mono B3.out.size))
 have g_ : _ ∧ _ ∧ _ := ⟨hb_.kp hHeld.1, hb_.kp hHeld.2.1, hb_.kp hHeld.2.2⟩
 refine ⟨_, rfl, ?_⟩
 refine hK.out _ _ ⟨g_.1, g_.2.1, g_.2.2⟩ (fun hHeld => ?_)
 clear hK K
 refine nz_ ?_
 refine pz_ 7 19 11 255 ?_
 refine pz_ 8 20 11 511 ?_
 refine tz_ 9 21 11 1023 hHeld ?_
 refine pz_ 10 22 11 2047 ?_
 refine dz_ ?_
 go_wp2_with fail
 obtain ⟨w5, hw5⟩ : ∃ w5, World.drew w4 = w5 := ⟨_, rfl⟩
 have b5 : Below w4.heap.size w4 w5 := by rw [← hw5]; exact (Below.refl _ _).drew
 have H5 := zA (H4.out.below b5)
 have B5 := zA (B4.out.trans (b5.mono B4.out.size))
 have z3 : w5.cell? ⟨d, 3, none⟩ = some (.slice As (n + 1) cs) := by have h_ := H5.out.c3; rw [HX.out.1] at h_; exact h_
 obtain ⟨ao, eA, x0, x1, x2⟩ := Bg7 H5.out.stk.reads.2.2 HXX.out
 subst eA
 clear b5 H3 B3 H4 B4 he he2 hz hz2
 refine Ab3 (n := 14) (S := fun w' => w'.cell? ⟨d, 3, none⟩ = some (.slice (some ao) (n + 1) cs) ∧ w'.cell? (ao.add (n * 3)) = some (.int .i64 x.f0) ∧ w'.cell? ⟨(ao.add (n * 3)).block, (ao.add (n * 3)).off + 1, none⟩ = some (.bool x.f1) ∧ w'.cell? ⟨(ao.add (n * 3)).block, (ao.add (n * 3)).off + 2, none⟩ = some (.int .i64 x.f2)) (ds := [13]) (bm_ 14 0) (by kernel_rfl) rfl rfl ⟨(by rw [hw5]; exact z3), (by rw [hw5]; exact x0), (by rw [hw5]; exact x1), (by rw [hw5]; exact x2)⟩ (fun hHeld => ?_)
 rw [hw5] at hHeld ⊢
 clear hw5 z3 x0 x1 x2
 refine pz_ 0 30 14 1 ?_
 refine pz_ 1 31 14 3 ?_
 refine pz_ 2 32 14 7 ?_
 refine pz_ 4 34 14 23 ?_
 refine pz_ 5 35 14 55 ?_
 refine pz_ 6 36 14 119 ?_
 refine tz_ 3 33 14 127 hHeld ?_
 refine tz_ 7 37 14 255 hHeld ?_
 refine pz_ 8 38 14 511 ?_
 refine pz_ 9 39 14 1023 ?_
 refine pz_ 10 40 14 2047 ?_
 refine tz_ 11 41 14 4095 hHeld ?_
 refine oz_ 12 4 14 8191 fun K hK => ?_
 refine vz_ ?_
 have ba_ := (Below.refl _ _).alloc (w := w5) (Nat.le_refl _) (.cells #[.int .i64 0, .bool false, .int .i64 0] 39)
 have g_ : _ ∧ _ ∧ _ ∧ _ := ⟨ba_.kp hHeld.1, ba_.kp hHeld.2.1, ba_.kp hHeld.2.2.1, ba_.kp hHeld.2.2.2⟩
 refine hK.out _ _ ⟨g_.1, g_.2.1, g_.2.2.1, g_.2.2.2⟩ (fun hHeld => ?_)
 clear hK K
 refine nz_ ?_
 refine Ag8 (i := 13) (N := none) (bm_ 14 16383) rfl rfl (by kernel_rfl) (by decide) (fun K hK => ?_)
 have hn_ := Aa6 w5 (.cells #[.int .i64 0, .bool false, .int .i64 0] 39)
 have hs0 := bc_ hn_ 0
 have hs1 := bc_ hn_ 1
 have hs2 := bc_ hn_ 2
 have hf0 := Aa1 hn_ 0
 have hf1 := Aa1 hn_ 1
 have hf2 := Aa1 hn_ 2
 refine sz_ ?_
 refine hK.out _ _ ?_
 clear hK K
 refine dz_ ?_
 obtain ⟨w6, hw6⟩ : ∃ w6, w6 = World.drew (w5.alloc (.cells #[.int .i64 x.f0, .bool x.f1, .int .i64 x.f2] 39)) := ⟨_, rfl⟩
 have b6 : Below w5.heap.size w5 w6 := by rw [hw6]; exact (bz_).drew
 have N6 : Aa2 (w6.heap[w5.heap.size]? = some (.cells #[.int .i64 x.f0, .bool x.f1, .int .i64 x.f2] 39 (0, 0))) := ⟨by rw [hw6]; exact Aa6 w5 _⟩
 have H6 := zA (H5.out.below b6)
 have B6 := zA (B5.out.trans (b6.mono B5.out.size))
 have N6g : Aa2 (w5.heap.size ≠ d ∧ w.heap.size < w5.heap.size) := ⟨by have := H5.out.lt d H5.out.own; omega, by have := B5.out.size; have := Ac0 R0.out; omega⟩
 have z3 : w6.cell? ⟨d, 3, none⟩ = some (.slice (some ao) (n + 1) cs) := by have h_ := H6.out.c3; rw [HX.out.1] at h_; exact h_
 clear b6 H5 B5 hb1 hb2
 go_upto_region 8 with fail
 have hcs : n ≤ cs := by have h_ := H6.out.stk.reads.2.1; rw [HX.out.1] at h_; omega
 have hle : ((n : Int) ≤ (n : Int) + 1) = True := by simp; omega
 have hle3 : ((n : Int) ≤ (cs : Int)) = True := by simp; omega
 refine Ab3 (n := 16) (S := fun w' => w'.cell? ⟨d, 3, none⟩ = some (.slice (some ao) (n + 1) cs)) (ds := [15]) (bm_ 16 0) (by kernel_rfl) rfl rfl ((by rw [← hw6]; exact z3)) (fun hHeld => ?_)
 rw [← hw6] at hHeld ⊢
 clear hw6 z3
 refine pz_ 0 42 16 1 ?_
 refine pz_ 1 43 16 3 ?_
 refine pz_ 2 44 16 7 ?_
 refine pz_ 3 45 16 15 ?_
 refine pz_ 5 47 16 47 ?_
 refine pz_ 6 48 16 111 ?_
 refine pz_ 7 49 16 239 ?_
 refine tz_ 4 46 16 255 hHeld ?_
 refine tz_ 8 50 16 511 hHeld ?_
 refine pz_ 9 51 16 1023 ?_
 refine pz_ 10 52 16 2047 ?_
 refine pz_ 11 53 16 4095 ?_
 refine oz_ 12 54 16 8191 fun K hK => ?_
 refine gz_ Tryz.func67 #[.slice (some ao) n cs] ?_
 with_reducible refine (Af2 (fun x => E x ∨ x = w.heap.size) (fun x => E x ∨ x = w.heap.size) (k.ops.take n) w6 (by have h_ := H6.out.stk; have h9 := LK.take h_ n (by have := HX.out.1; omega); exact h9) (by rw [HLN.out]; have := HX.out; omega) H6.out.lt).mono ?_
 rintro e w7 ⟨vn, rfl, hln, hb_⟩
 obtain ⟨An, cn, rfl⟩ := hln.slice
 rw [HLN.out] at hln ⊢
 have LN := zA hln
 have H7 := zA (H6.out.below hb_)
 have B7 := zA (B6.out.trans (hb_.mono B6.out.size))
 have N7 := zA (Aa3 N6.out hb_)
 have g_ := hb_.kp hHeld
 clear hln
 refine ⟨_, rfl, ?_⟩
 refine hK.out _ _ (g_) (fun hHeld => ?_)
 clear hK K
 refine nz_ ?_
 refine pz_ 13 55 16 16383 ?_
 refine pz_ 14 56 16 32767 ?_
 refine Ag8 (i := 15) (N := none) (bm_ 16 65535) rfl rfl (by kernel_rfl) (by decide) (fun K hK => ?_)
 have hs_ : w7.cell? ⟨d, 3, none⟩ = some (.slice (some ao) (n + 1) cs) := by have h_ := H7.out.c3; rw [HX.out.1] at h_; exact h_
 have hfs_ := Aa1 H7.out.box 3
 refine sz_ ?_
 refine hK.out _ _ ?_
 clear hK K
 refine dz_ ?_
 have S8 := zA (H7.out.stack LN.out)
 have C8 : Aa2 (Chg (fun x => x = d) W (w7.setCell ⟨d, 3, none⟩ (.slice An n cn))) := ⟨(Chg.of_below B7.out (fun _ => False)).trans (Ae0 w7 d 3 _) (fun _ e => e.elim) (fun _ e => .inl e)⟩
 obtain ⟨w8, hw8⟩ : ∃ w8, w8 = w7.setCell ⟨d, 3, none⟩ (.slice An n cn) := ⟨_, rfl⟩
 have q8 : w8.heap[w5.heap.size]? = some (.cells #[.int .i64 x.f0, .bool x.f1, .int .i64 x.f2] 39 (0, 0)) := by rw [hw8]; exact Ag6 N7.out (p := ⟨d, 3, none⟩) N6g.out.1 _
 have GD : Aa2 (w.heap.size ≠ d) := ⟨by have := G0.out.lt d G0.out.own; omega⟩
 rw [← hw8] at S8 C8 ⊢
 have r8 : w8.heap[w.heap.size]? = some (.cells #[.int .i64 0, .bool false, .int .i64 0] 39 (0, 0)) := C8.out.blk R0.out GD.out
 have R8 := zA r8
 have y0 := bc_ q8 0
 have y1 := bc_ q8 1
 have y2 := bc_ q8 2
 have p0 := bc_ r8 0
 have p1 := bc_ r8 1
 have p2 := bc_ r8 2
 have f0 := Aa1 r8 0
 have f1 := Aa1 r8 1
 have f2 := Aa1 r8 2
 clear hw8 r8 q8 hw hw2 hle hle3 hcs
 go_wp2_with fail
 refine bodyPost_ret (v := .tuple #[.agg #[.int .i64 x.f0, .bool x.f1, .int .i64 x.f2], .int .i64 0]) ?_ rfl ?_
 ·exact Af0 (p := 2) (u := 3) rfl _ _ w.heap.size 39 #[.int .i64 x.f0, .bool x.f1, .int .i64 x.f2] (0, 0) _ rfl (Ah9 (t := 39) R8.out) Tryz.underlying39 rfl (by kernel_rfl)
 exact ⟨rfl, RQ.cell G0.out BW.out (Nat.le_refl _) ⟨_, _, _, _, _, _, S8.out⟩ C8.out (Ah8 _ _ _ _ _)⟩
set_option maxHeartbeats 4000000 in
theorem Cg2 (h : R13 E d k w) {f : Fr} (hf : k.frames[k.frames.length - 1]? = some f) (hh : k.ops.length = f.height) (hd : f.dead = true) (hm : k.ops.length ≤ 4294967296) (hn : k.frames.length ≤ 4294967296) :
  Calls Tryz.prog 123 #[.pointer (some ⟨d, 0, none⟩)] w fun e w' => e = .returned (.tuple #[.agg #[.int .i64 0, .bool false, .int .i64 0], .int .i64 0]) ∧ R13 E d { k with ops := k.ops } w' ∧ Chg (fun x => x = d) w w' := by
 obtain ⟨n, hon⟩ : ∃ n, k.ops.length = n := ⟨_, rfl⟩
 have hbw : Below w.heap.size w (w.alloc (.cells #[.int .i64 0, .bool false, .int .i64 0] 39)) := bz_
 have G0 := zA h
 obtain ⟨vl, vlo, vs, vst, vf, vr, h1⟩ := h.more (p := w.heap.size) hbw (Nat.le_refl _) (by simp)
 obtain ⟨ad, m, cf, A1, c1, A2, c2, A4, c4_, rfl, hfm, hq⟩ := h1.top hf
 obtain ⟨As, cs, rfl⟩ := h1.stk.slice
 have H1 := zA h1
 have c4 := h1.c4
 have c3 := h1.c3
 have hht := hq.height
 have hde := hq.dead
 rw [hon] at c3
 rw [hd] at hde
 have HQ := zA (And.intro hht hde)
 have HX := zA (And.intro hon (And.intro hm hn))
 have HFM := zA hfm
 have hm1 : m + 1 ≤ 4294967296 := by omega
 have hz : (((m + 1 : Nat) : Int) == 0) = false := beq_eq_false_iff_ne.mpr (by omega)
 have hz2 : ((m : Int) + 1 == 0) = false := beq_eq_false_iff_ne.mpr (by omega)
 have he : ((n : Int) == (f.height : Int)) = true := by rw [beq_iff_eq]; omega
 have hr0 := Aa6 w (.cells #[.int .i64 0, .bool false, .int .i64 0] 39)
 have R0 := zA hr0
 have BW := zA hbw
 clear h h1 hf hfm hq hm hn hh hon hht hde hr0
 go_enter Tryz.func123, Tryz.ntmps123
 go_wp2_with fail
 obtain ⟨W, hW⟩ : ∃ W, W = w.alloc (.cells #[.int .i64 0, .bool false, .int .i64 0] 39) := ⟨_, rfl⟩
 rw [← hW] at H1 HQ R0 BW c3 c4 hbw ⊢
 clear hW hbw
 obtain ⟨w3, hw3⟩ : ∃ w3, World.drew W = w3 := ⟨_, rfl⟩
 have b3 : Below W.heap.size W w3 := by rw [← hw3]; exact (Below.refl _ _).drew
 have H3 := zA (H1.out.below b3)
 have B3 := zA b3
 have z3 : w3.cell? ⟨d, 3, none⟩ = some (.slice As n cs) := by rw [← hw3]; exact c3
 have z4 : w3.cell? ⟨d, 4, none⟩ = some (.slice (some ad) (m + 1) cf) := by rw [← hw3]; exact c4
 have zh : w3.cell? ⟨(ad.add (m * 6)).block, (ad.add (m * 6)).off + 3, none⟩ = some (.int .i64 f.height) := by rw [← hw3]; exact HQ.out.1
 clear b3 c3 c4
 refine Ab3 (n := 11) (S := fun w' => w'.cell? ⟨d, 3, none⟩ = some (.slice As n cs) ∧ w'.cell? ⟨d, 4, none⟩ = some (.slice (some ad) (m + 1) cf) ∧ w'.cell? ⟨(ad.add (m * 6)).block, (ad.add (m * 6)).off + 3, none⟩ = some (.int .i64 f.height)) (ds := []) (bm_ 11 0) (by kernel_rfl) rfl rfl ⟨(by rw [hw3]; exact z3), (by rw [hw3]; exact z4), (by rw [hw3]; exact zh)⟩ (fun hHeld => ?_)
 rw [hw3] at hHeld ⊢
 clear hw3 z3 z4 zh
 refine pz_ 0 12 11 1 ?_
 refine pz_ 1 13 11 3 ?_
 refine pz_ 2 14 11 7 ?_
 refine pz_ 5 17 11 39 ?_
 refine tz_ 3 15 11 47 hHeld ?_
 refine pz_ 4 16 11 63 ?_
 refine oz_ 6 18 11 127 fun K hK => ?_
 refine gz_ Tryz.func74 #[.pointer (some ⟨d, 0, none⟩)] ?_
 with_reducible refine (Al9 m cf ad w3 hHeld.2.1 hm1).mono ?_
 rintro e w4 ⟨rfl, hb_⟩
 have H4 := zA (H3.out.below hb_)
 have B4 := zA (B3.out.trans (hb_.mono B3.out.size))
 have g_ : _ ∧ _ ∧ _ := ⟨hb_.kp hHeld.1, hb_.kp hHeld.2.1, hb_.kp hHeld.2.2⟩
 refine ⟨_, rfl, ?_⟩
 refine hK.out _ _ ⟨g_.1, g_.2.1, g_.2.2⟩ (fun hHeld => ?_)
 clear hK K
 refine nz_ ?_
 refine pz_ 7 19 11 255 ?_
 refine pz_ 8 20 11 511 ?_
 refine tz_ 9 21 11 1023 hHeld ?_
 refine pz_ 10 22 11 2047 ?_
 refine dz_ ?_
 go_wp2_with fail
 have z4 : w4.cell? ⟨d, 4, none⟩ = some (.slice (some ad) (m + 1) cf) := H4.out.c4
 have K5 := Al9 m cf ad w4 z4 hm1
 clear H3 B3 hz hz2
 refine K5.mono ?_
 rintro e w6 ⟨rfl, hb6⟩
 have H6 := zA (H4.out.below hb6)
 have B6 := zA (B4.out.trans (hb6.mono B4.out.size))
 have zd : w6.cell? ⟨(ad.add (m * 6)).block, (ad.add (m * 6)).off + 5, none⟩ = some (.bool true) := B6.out.kp HQ.out.2
 have r6 := Aa3 R0.out B6.out
 have R6 := zA r6
 have p0 := bc_ r6 0
 have p1 := bc_ r6 1
 have p2 := bc_ r6 2
 have f0 := Aa1 r6 0
 have f1 := Aa1 r6 1
 have f2 := Aa1 r6 2
 clear hb6 K5 z4 r6
 go_wp2_with fail
 refine bodyPost_ret (v := .tuple #[.agg #[.int .i64 0, .bool false, .int .i64 0], .int .i64 0]) ?_ rfl ?_
 ·exact Af0 (p := 2) (u := 3) rfl _ _ w.heap.size 39 #[.int .i64 0, .bool false, .int .i64 0] (0, 0) _ rfl (Ah9 (t := 39) R6.out) Tryz.underlying39 rfl (by kernel_rfl)
 exact ⟨rfl, RQ.cell G0.out BW.out (Nat.le_refl _) ⟨_, _, _, _, _, _, H6.out⟩ (Chg.of_below B6.out _) (Ah8 _ _ _ _ _)⟩
set_option maxHeartbeats 4000000 in
theorem qPop_no (h : R13 E d k w) {f : Fr} (hf : k.frames[k.frames.length - 1]? = some f) (hh : k.ops.length = f.height) (hd : f.dead = false) (hm : k.ops.length ≤ 4294967296) (hn : k.frames.length ≤ 4294967296) :
  Calls Tryz.prog 123 #[.pointer (some ⟨d, 0, none⟩)] w fun e w' => e = .returned (.tuple #[.agg #[.int .i64 0, .bool false, .int .i64 0], .int .i64 130]) ∧ R13 E d { k with ops := k.ops } w' ∧ Chg (fun x => x = d) w w' := by
 obtain ⟨n, hon⟩ : ∃ n, k.ops.length = n := ⟨_, rfl⟩
 have hbw : Below w.heap.size w (w.alloc (.cells #[.int .i64 0, .bool false, .int .i64 0] 39)) := bz_
 have G0 := zA h
 obtain ⟨vl, vlo, vs, vst, vf, vr, h1⟩ := h.more (p := w.heap.size) hbw (Nat.le_refl _) (by simp)
 obtain ⟨ad, m, cf, A1, c1, A2, c2, A4, c4_, rfl, hfm, hq⟩ := h1.top hf
 obtain ⟨As, cs, rfl⟩ := h1.stk.slice
 have H1 := zA h1
 have c4 := h1.c4
 have c3 := h1.c3
 have hht := hq.height
 have hde := hq.dead
 rw [hon] at c3
 rw [hd] at hde
 have HQ := zA (And.intro hht hde)
 have HX := zA (And.intro hon (And.intro hm hn))
 have HFM := zA hfm
 have hm1 : m + 1 ≤ 4294967296 := by omega
 have hz : (((m + 1 : Nat) : Int) == 0) = false := beq_eq_false_iff_ne.mpr (by omega)
 have hz2 : ((m : Int) + 1 == 0) = false := beq_eq_false_iff_ne.mpr (by omega)
 have he : ((n : Int) == (f.height : Int)) = true := by rw [beq_iff_eq]; omega
 have hr0 := Aa6 w (.cells #[.int .i64 0, .bool false, .int .i64 0] 39)
 have R0 := zA hr0
 have BW := zA hbw
 clear h h1 hf hfm hq hm hn hh hon hht hde hr0
 go_enter Tryz.func123, Tryz.ntmps123
 go_wp2_with fail
 obtain ⟨W, hW⟩ : ∃ W, W = w.alloc (.cells #[.int .i64 0, .bool false, .int .i64 0] 39) := ⟨_, rfl⟩
 rw [← hW] at H1 HQ R0 BW c3 c4 hbw ⊢
 clear hW hbw
 obtain ⟨w3, hw3⟩ : ∃ w3, World.drew W = w3 := ⟨_, rfl⟩
 have b3 : Below W.heap.size W w3 := by rw [← hw3]; exact (Below.refl _ _).drew
 have H3 := zA (H1.out.below b3)
 have B3 := zA b3
 have z3 : w3.cell? ⟨d, 3, none⟩ = some (.slice As n cs) := by rw [← hw3]; exact c3
 have z4 : w3.cell? ⟨d, 4, none⟩ = some (.slice (some ad) (m + 1) cf) := by rw [← hw3]; exact c4
 have zh : w3.cell? ⟨(ad.add (m * 6)).block, (ad.add (m * 6)).off + 3, none⟩ = some (.int .i64 f.height) := by rw [← hw3]; exact HQ.out.1
 clear b3 c3 c4
 refine Ab3 (n := 11) (S := fun w' => w'.cell? ⟨d, 3, none⟩ = some (.slice As n cs) ∧ w'.cell? ⟨d, 4, none⟩ = some (.slice (some ad) (m + 1) cf) ∧ w'.cell? ⟨(ad.add (m * 6)).block, (ad.add (m * 6)).off + 3, none⟩ = some (.int .i64 f.height)) (ds := []) (bm_ 11 0) (by kernel_rfl) rfl rfl ⟨(by rw [hw3]; exact z3), (by rw [hw3]; exact z4), (by rw [hw3]; exact zh)⟩ (fun hHeld => ?_)
 rw [hw3] at hHeld ⊢
 clear hw3 z3 z4 zh
 refine pz_ 0 12 11 1 ?_
 refine pz_ 1 13 11 3 ?_
 refine pz_ 2 14 11 7 ?_
 refine pz_ 5 17 11 39 ?_
 refine tz_ 3 15 11 47 hHeld ?_
 refine pz_ 4 16 11 63 ?_
 refine oz_ 6 18 11 127 fun K hK => ?_
 refine gz_ Tryz.func74 #[.pointer (some ⟨d, 0, none⟩)] ?_
 with_reducible refine (Al9 m cf ad w3 hHeld.2.1 hm1).mono ?_
 rintro e w4 ⟨rfl, hb_⟩
 have H4 := zA (H3.out.below hb_)
 have B4 := zA (B3.out.trans (hb_.mono B3.out.size))
 have g_ : _ ∧ _ ∧ _ := ⟨hb_.kp hHeld.1, hb_.kp hHeld.2.1, hb_.kp hHeld.2.2⟩
 refine ⟨_, rfl, ?_⟩
 refine hK.out _ _ ⟨g_.1, g_.2.1, g_.2.2⟩ (fun hHeld => ?_)
 clear hK K
 refine nz_ ?_
 refine pz_ 7 19 11 255 ?_
 refine pz_ 8 20 11 511 ?_
 refine tz_ 9 21 11 1023 hHeld ?_
 refine pz_ 10 22 11 2047 ?_
 refine dz_ ?_
 go_wp2_with fail
 have z4 : w4.cell? ⟨d, 4, none⟩ = some (.slice (some ad) (m + 1) cf) := H4.out.c4
 have K5 := Al9 m cf ad w4 z4 hm1
 clear H3 B3 hz hz2
 refine K5.mono ?_
 rintro e w6 ⟨rfl, hb6⟩
 have H6 := zA (H4.out.below hb6)
 have B6 := zA (B4.out.trans (hb6.mono B4.out.size))
 have zd : w6.cell? ⟨(ad.add (m * 6)).block, (ad.add (m * 6)).off + 5, none⟩ = some (.bool false) := B6.out.kp HQ.out.2
 have r6 := Aa3 R0.out B6.out
 have R6 := zA r6
 have p0 := bc_ r6 0
 have p1 := bc_ r6 1
 have p2 := bc_ r6 2
 have f0 := Aa1 r6 0
 have f1 := Aa1 r6 1
 have f2 := Aa1 r6 2
 clear hb6 K5 z4 r6
 go_wp2_with fail
 refine bodyPost_ret (v := .tuple #[.agg #[.int .i64 0, .bool false, .int .i64 0], .int .i64 130]) ?_ rfl ?_
 ·exact Af0 (p := 2) (u := 3) rfl _ _ w.heap.size 39 #[.int .i64 0, .bool false, .int .i64 0] (0, 0) _ rfl (Ah9 (t := 39) R6.out) Tryz.underlying39 rfl (by kernel_rfl)
 exact ⟨rfl, RQ.cell G0.out BW.out (Nat.le_refl _) ⟨_, _, _, _, _, _, H6.out⟩ (Chg.of_below B6.out _) (Ah8 _ _ _ _ _)⟩
end
section
variable {E E' : Nat → Prop} {d : Nat} {k k' : Chk} {w : World}
theorem Ax3 (h : R13 E d k w) {f : Fr} (hf : k.frames[k.frames.length - 1]? = some f) (hh : f.height ≤ k.ops.length) (hm : k.ops.length ≤ 4294967296) (hn : k.frames.length ≤ 4294967296) {er : Int} {x : S39} {o' : List S39} (hp : popM f.height f.dead k.ops = (er, x, o')) :
  Calls Tryz.prog 123 #[.pointer (some ⟨d, 0, none⟩)] w fun e w' => e = .returned (.tuple #[.agg #[.int .i64 x.f0, .bool x.f1, .int .i64 x.f2], .int .i64 er]) ∧ R13 E d { k with ops := o' } w' ∧ Chg (fun x => x = d) w w' := by
 unfold popM at hp
 by_cases h1 : f.height < k.ops.length
 ·rw [if_pos h1] at hp
  injection hp with e1 e2
  injection e2 with e2 e3
  subst e1 e2 e3
  exact qPop_yes h hf h1 hm hn
 ·rw [if_neg h1] at hp
  cases hd : f.dead with
  | true =>
   rw [hd, if_pos rfl] at hp
   injection hp with e1 e2
   injection e2 with e2 e3
   subst e1 e2 e3
   exact Cg2 h hf (show k.ops.length = f.height by omega) hd hm hn
  | false =>
   rw [hd, if_neg (by simp)] at hp
   injection hp with e1 e2
   injection e2 with e2 e3
   subst e1 e2 e3
   exact qPop_no h hf (show k.ops.length = f.height by omega) hd hm hn
theorem RV.sets {W : World} {vl vlo vs vst vf vr : Value} (h : RV E d k W vl vlo vs vst vf vr) {v : Value} {xs : List Bool} (hv : LK Kd.bool E W v xs) : RV E d { k with sets := xs } (W.setCell ⟨d, 2, none⟩ v) vl vlo v vst vf vr := by
 have c := Ae0 W d 2 v
 refine ⟨by rw [Aa7 h.box]; simp, setd h.lst h.own 2, setd h.loc h.own 2, setd hv h.own 2, setd h.stk h.own 2, setd h.frs h.own 2, setd h.res h.own 2, h.own, fun x e => Nat.lt_of_lt_of_le (h.lt x e) c.size, ?_⟩
 obtain ⟨B, b1, b2, b3⟩ := h.tab
 exact ⟨B, b1, Nat.le_trans b2 c.size, b3.on (Af5 c b2 (fun x e => by rw [e]; exact b1 d h.own))⟩
set_option maxHeartbeats 4000000 in
theorem Bd0 {d2 : Nat} {k2 : Chk} (h : R13 E d k w) (h2 : R13 (fun y => E y ∨ y = d2) d2 k2 w) (hne : d ≠ d2) :
  Calls Tryz.prog 86 #[.pointer (some ⟨d, 0, none⟩), .pointer (some ⟨d2, 0, none⟩)] w fun e w' => e = .returned (.tuple #[]) ∧ R13 E d { k with sets := k2.sets, ops := k2.ops, frames := k2.frames } w' ∧ Chg (fun x => x = d) w w' := by
 obtain ⟨vl, vlo, vs, vst, vf, vr, h⟩ := h
 obtain ⟨ul, ulo, us, ust, uf, ur, h2⟩ := h2
 obtain ⟨A1, c1, rfl⟩ := h2.set.slice
 obtain ⟨A2, c2, rfl⟩ := h2.stk.slice
 obtain ⟨A3, c3, rfl⟩ := h2.frs.slice
 have m1 := h2.set.mono (S' := E) (fun _ e => .inl e)
 have m2 := h2.stk.mono (S' := E) (fun _ e => .inl e)
 have m3 := h2.frs.mono (S' := E) (fun _ e => .inl e)
 have S9 := zA (((h.sets m1).stack (setd m2 h.own 2)).frames (setd (setd m3 h.own 2) h.own 3))
 have C9 : Aa2 (Chg (fun x => x = d) w (((w.setCell ⟨d, 2, none⟩ (.slice A1 k2.sets.length c1)).setCell ⟨d, 3, none⟩ (.slice A2 k2.ops.length c2)).setCell ⟨d, 4, none⟩ (.slice A3 (k2.frames.map Fr.q).length c3))) := ⟨((Ae0 w d 2 _).trans (Ae0 _ d 3 _) (fun _ e => .inl e) (fun _ e => .inl e)).trans (Ae0 _ d 4 _) (fun _ e => .inl e) (fun _ e => .inl e)⟩
 have x2 := h2.c2
 have x3 := h2.c3
 have x4 := h2.c4
 have y2 := h.c2
 have y3 := h.c3
 have y4 := h.c4
 have f2 := Aa1 h.box 2
 have f3 := Aa1 h.box 3
 have f4 := Aa1 h.box 4
 have hn2 : d2 ≠ d := fun e => hne e.symm
 obtain ⟨n1, hn1⟩ : ∃ n, n = k2.sets.length := ⟨_, rfl⟩
 obtain ⟨n2, hn2⟩ : ∃ n, n = k2.ops.length := ⟨_, rfl⟩
 obtain ⟨n3, hn3⟩ : ∃ n, n = (k2.frames.map Fr.q).length := ⟨_, rfl⟩
 rw [← hn1, ← hn2, ← hn3] at S9 C9
 rw [← hn1] at x2
 rw [← hn2] at x3
 rw [← hn3] at x4
 clear h h2 m1 m2 m3 hn1 hn2 hn3
 go_enter Tryz.func86, Tryz.ntmps86
 go_wp2_with fail
 refine bodyPost_end (results_none (by kernel_rfl) _ _ _) rfl ?_
 exact ⟨rfl, ⟨_, _, _, _, _, _, S9.out⟩, C9.out⟩
set_option maxHeartbeats 4000000 in
theorem Bg9 (h : R13 E d k w) (hs : Sml k) (hg : GOk k.l) {f : Fr} (hf : k.frames[k.frames.length - 1]? = some f) (hh : f.height ≤ k.ops.length) (v x : S39) (o' : List S39) (hp : popM f.height f.dead k.ops = (130, x, o')) :
  Calls Tryz.prog 85 #[.pointer (some ⟨d, 0, none⟩), .agg #[.int .i64 v.f0, .bool v.f1, .int .i64 v.f2]] w fun e w' => e = .returned (.tuple #[.agg #[.int .i64 0, .bool false, .int .i64 0], .int .i64 130]) ∧ R13 E d { k with ops := o' } w' ∧ Chg (fun x => x = d) w w' := by
 obtain ⟨W, hW⟩ : ∃ W, W = ((w.alloc (.cells #[.int .i64 v.f0, .bool v.f1, .int .i64 v.f2] 39)).alloc (.cells #[.int .i64 0, .bool false, .int .i64 0] 39)) := ⟨_, rfl⟩
 have hbw : Below w.heap.size w W := by rw [hW]; exact (bz_).alloc (by simp) _
 have hsz : W.heap.size = w.heap.size + 1 + 1 := by rw [hW, World.size_alloc, World.size_alloc]
 have q0 : W.heap[w.heap.size]? = some (.cells #[.int .i64 v.f0, .bool v.f1, .int .i64 v.f2] 39 (0, 0)) := by rw [hW]; exact Aa5 (Aa6 w (.cells #[.int .i64 v.f0, .bool v.f1, .int .i64 v.f2] 39)) _
 have q1 : W.heap[w.heap.size + 1]? = some (.cells #[.int .i64 0, .bool false, .int .i64 0] 39 (0, 0)) := by
  rw [hW]
  have h_ := Aa6 (w.alloc (.cells #[.int .i64 v.f0, .bool v.f1, .int .i64 v.f2] 39)) (.cells #[.int .i64 0, .bool false, .int .i64 0] 39)
  rw [World.size_alloc] at h_
  exact h_
 have h1 := h.more (p := w.heap.size + 1) hbw (Nat.le_succ _) (by omega)
 have DL : Aa2 (d < w.heap.size) := ⟨h.lt d h.own⟩
 have H0 := zA h
 have H1 := zA h1
 have HG := zA hg
 have K1 := Am2 h1 hs
 have HF := zA (And.intro hf (And.intro hh (And.intro hs.ops hs.frs)))
 have HP := zA hp
 have B0 := zA hbw
 have Q0 := zA (And.intro q0 q1)
 clear h h1 hs hg hf hh hp hbw q0 q1
 go_enter Tryz.func85, Tryz.ntmps85
 go_wp2_with fail
 rw [← hW]
 clear hW
 refine K1.mono ?_
 rintro e w1 ⟨d2, rfl, hd2, hcp, hb1⟩
 have DN : Aa2 (d ≠ d2 ∧ w.heap.size + 1 < d2 ∧ d2 < w1.heap.size) := ⟨by have := DL.out; omega, by omega, hcp.lt d2 hcp.own⟩
 have CP := zA hcp
 have B1 := zA (B0.out.trans (hb1.mono B0.out.size))
 have BB := zA hb1
 have Q1 := zA (And.intro (Aa3 Q0.out.1 hb1) (Aa3 Q0.out.2 hb1))
 have K2 := Ax3 (H1.out.below hb1) HF.out.1 HF.out.2.1 HF.out.2.2.1 HF.out.2.2.2 HP.out
 clear K1 hd2 hcp hb1 hsz
 go_wp2_with fail
 refine K2.mono ?_
 rintro e w2 ⟨rfl, hst, hch⟩
 have q0 := hch.blk Q1.out.1 (by have := DL.out; omega)
 have q1 := hch.blk Q1.out.2 (by have := DL.out; omega)
 have ST := zA hst
 have CH : Aa2 (Chg (fun x => x = d) W w2) := ⟨(Chg.of_below BB.out (fun _ => False)).trans hch (fun _ e => e.elim) (fun _ e => .inl e)⟩
 have CP2 := zA (CP.out.chgp hch (.inl (.inl H0.out.own)) DN.out.1)
 have N2 : Aa2 (w.heap.size + 1 < w2.heap.size) := ⟨Ac0 q1⟩
 clear hst hch K2
 have b0 := bc_ q0 0
 have b1 := bc_ q0 1
 have b2 := bc_ q0 2
 have p0 := bc_ q1 0
 have p1 := bc_ q1 1
 have p2 := bc_ q1 2
 have f0 := Aa1 q1 0
 have f1 := Aa1 q1 1
 have f2 := Aa1 q1 2
 have Q2 := zA (And.intro q0 q1)
 have l2 := N2.out
 have l1 : w.heap.size < w2.heap.size := by omega
 clear q0 q1
 go_wp2_with fail
 clear l1 l2
 refine bodyPost_ret (v := .tuple #[.agg #[.int .i64 0, .bool false, .int .i64 0], .int .i64 130]) ?_ rfl ?_
 ·exact Af0 (p := 4) (u := 5) rfl _ _ (w.heap.size + 1) 39 #[.int .i64 0, .bool false, .int .i64 0] (0, 0) _ rfl (Aa5 (Ah9 Q2.out.2) _) Tryz.underlying39 rfl (by kernel_rfl)
 exact ⟨rfl, RQ.cell H0.out B0.out (Nat.le_succ _) ST.out CH.out ((Ah8 _ _ _ _ _).trans (Bf6 (fun _ => False) _ _) (fun _ e => .inl e) (fun _ e => e.elim))⟩
set_option maxHeartbeats 4000000 in
theorem Bo6 (h : R13 E d k w) (hs : Sml k) (hg : GOk k.l) {f : Fr} (hf : k.frames[k.frames.length - 1]? = some f) (hh : f.height ≤ k.ops.length) (v x : S39) (o' : List S39) (hp : popM f.height f.dead k.ops = (0, x, o')) (hmt : matM k.l x v = true) :
  Calls Tryz.prog 85 #[.pointer (some ⟨d, 0, none⟩), .agg #[.int .i64 v.f0, .bool v.f1, .int .i64 v.f2]] w fun e w' => e = .returned (.tuple #[.agg #[.int .i64 x.f0, .bool x.f1, .int .i64 x.f2], .int .i64 0]) ∧ R13 E d { k with ops := o' } w' ∧ Chg (fun x => x = d) w w' := by
 obtain ⟨W, hW⟩ : ∃ W, W = ((w.alloc (.cells #[.int .i64 v.f0, .bool v.f1, .int .i64 v.f2] 39)).alloc (.cells #[.int .i64 0, .bool false, .int .i64 0] 39)) := ⟨_, rfl⟩
 have hbw : Below w.heap.size w W := by rw [hW]; exact (bz_).alloc (by simp) _
 have hsz : W.heap.size = w.heap.size + 1 + 1 := by rw [hW, World.size_alloc, World.size_alloc]
 have q0 : W.heap[w.heap.size]? = some (.cells #[.int .i64 v.f0, .bool v.f1, .int .i64 v.f2] 39 (0, 0)) := by rw [hW]; exact Aa5 (Aa6 w (.cells #[.int .i64 v.f0, .bool v.f1, .int .i64 v.f2] 39)) _
 have q1 : W.heap[w.heap.size + 1]? = some (.cells #[.int .i64 0, .bool false, .int .i64 0] 39 (0, 0)) := by
  rw [hW]
  have h_ := Aa6 (w.alloc (.cells #[.int .i64 v.f0, .bool v.f1, .int .i64 v.f2] 39)) (.cells #[.int .i64 0, .bool false, .int .i64 0] 39)
  rw [World.size_alloc] at h_
  exact h_
 have h1 := h.more (p := w.heap.size + 1) hbw (Nat.le_succ _) (by omega)
 have DL : Aa2 (d < w.heap.size) := ⟨h.lt d h.own⟩
 have H0 := zA h
 have H1 := zA h1
 have HG := zA hg
 have K1 := Am2 h1 hs
 have HF := zA (And.intro hf (And.intro hh (And.intro hs.ops hs.frs)))
 have HP := zA hp
 have HMT := zA hmt
 clear hmt
 have B0 := zA hbw
 have Q0 := zA (And.intro q0 q1)
 clear h h1 hs hg hf hh hp hbw q0 q1
 go_enter Tryz.func85, Tryz.ntmps85
 go_wp2_with fail
 rw [← hW]
 clear hW
 refine K1.mono ?_
 rintro e w1 ⟨d2, rfl, hd2, hcp, hb1⟩
 have DN : Aa2 (d ≠ d2 ∧ w.heap.size + 1 < d2 ∧ d2 < w1.heap.size) := ⟨by have := DL.out; omega, by omega, hcp.lt d2 hcp.own⟩
 have CP := zA hcp
 have B1 := zA (B0.out.trans (hb1.mono B0.out.size))
 have BB := zA hb1
 have Q1 := zA (And.intro (Aa3 Q0.out.1 hb1) (Aa3 Q0.out.2 hb1))
 have K2 := Ax3 (H1.out.below hb1) HF.out.1 HF.out.2.1 HF.out.2.2.1 HF.out.2.2.2 HP.out
 clear K1 hd2 hcp hb1 hsz
 go_wp2_with fail
 refine K2.mono ?_
 rintro e w2 ⟨rfl, hst, hch⟩
 have q0 := hch.blk Q1.out.1 (by have := DL.out; omega)
 have q1 := hch.blk Q1.out.2 (by have := DL.out; omega)
 have ST := zA hst
 have CH : Aa2 (Chg (fun x => x = d) W w2) := ⟨(Chg.of_below BB.out (fun _ => False)).trans hch (fun _ e => e.elim) (fun _ e => .inl e)⟩
 have CP2 := zA (CP.out.chgp hch (.inl (.inl H0.out.own)) DN.out.1)
 have N2 : Aa2 (w.heap.size + 1 < w2.heap.size) := ⟨Ac0 q1⟩
 clear hst hch K2
 have b0 := bc_ q0 0
 have b1 := bc_ q0 1
 have b2 := bc_ q0 2
 have p0 := bc_ q1 0
 have p1 := bc_ q1 1
 have p2 := bc_ q1 2
 have f0 := Aa1 q1 0
 have f1 := Aa1 q1 1
 have f2 := Aa1 q1 2
 have Q2 := zA (And.intro q0 q1)
 have l2 := N2.out
 have l1 : w.heap.size < w2.heap.size := by omega
 clear q0 q1
 go_wp2_with fail
 clear l1 l2
 obtain ⟨w3, hw3⟩ : ∃ w3, w3 = w2.alloc (.cells #[.int .i64 x.f0, .bool x.f1, .int .i64 x.f2] 39) := ⟨_, rfl⟩
 rw [← hw3]
 have b3 : Below w2.heap.size w2 w3 := by rw [hw3]; exact bz_
 have r3 : w3.heap[w2.heap.size]? = some (.cells #[.int .i64 x.f0, .bool x.f1, .int .i64 x.f2] 39 (0, 0)) := by rw [hw3]; exact Aa6 w2 _
 have K3 := At5 (ST.out.below b3) HG.out x v
 rw [HMT.out] at K3
 refine K3.mono ?_
 rintro e w4 ⟨rfl, hb4⟩
 have r4 := Aa3 r3 hb4
 have q1 := Aa3 (Aa3 Q2.out.2 b3) hb4
 have R4 := zA (And.intro r4 q1)
 have B4 := zA (b3.trans (hb4.mono b3.size))
 have C4 : Aa2 (Chg (fun x => x = d) W w4) := ⟨CH.out.trans (Chg.of_below B4.out (fun _ => False)) (fun _ e => .inl e) (fun _ e => e.elim)⟩
 clear b0 b1 b2 p0 p1 p2 f0 f1 f2 K3 hb4 hw3 r3 b3
 have x0 := bc_ r4 0
 have x1 := bc_ r4 1
 have x2 := bc_ r4 2
 have p0 := bc_ q1 0
 have p1 := bc_ q1 1
 have p2 := bc_ q1 2
 have f0 := Aa1 q1 0
 have f1 := Aa1 q1 1
 have f2 := Aa1 q1 2
 clear r4 q1
 go_wp2_with fail
 refine bodyPost_ret (v := .tuple #[.agg #[.int .i64 x.f0, .bool x.f1, .int .i64 x.f2], .int .i64 0]) ?_ rfl ?_
 ·exact Af0 (p := 4) (u := 5) rfl _ _ (w.heap.size + 1) 39 #[.int .i64 x.f0, .bool x.f1, .int .i64 x.f2] (0, 0) _ rfl (Ah9 R4.out.2) Tryz.underlying39 rfl (by kernel_rfl)
 exact ⟨rfl, RQ.cell H0.out B0.out (Nat.le_succ _) (ST.out.below B4.out) C4.out (Ah8 _ _ _ _ _)⟩
set_option maxHeartbeats 4000000 in
theorem Bo7 (h : R13 E d k w) (hs : Sml k) (hg : GOk k.l) {f : Fr} (hf : k.frames[k.frames.length - 1]? = some f) (hh : f.height ≤ k.ops.length) (v x : S39) (o' : List S39) (hp : popM f.height f.dead k.ops = (0, x, o')) (hmt : matM k.l x v = false) :
  Calls Tryz.prog 85 #[.pointer (some ⟨d, 0, none⟩), .agg #[.int .i64 v.f0, .bool v.f1, .int .i64 v.f2]] w fun e w' => e = .returned (.tuple #[.agg #[.int .i64 0, .bool false, .int .i64 0], .int .i64 131]) ∧ R13 E d { k with ops := k.ops } w' ∧ Chg (fun x => x = d) w w' := by
 obtain ⟨W, hW⟩ : ∃ W, W = ((w.alloc (.cells #[.int .i64 v.f0, .bool v.f1, .int .i64 v.f2] 39)).alloc (.cells #[.int .i64 0, .bool false, .int .i64 0] 39)) := ⟨_, rfl⟩
 have hbw : Below w.heap.size w W := by rw [hW]; exact (bz_).alloc (by simp) _
 have hsz : W.heap.size = w.heap.size + 1 + 1 := by rw [hW, World.size_alloc, World.size_alloc]
 have q0 : W.heap[w.heap.size]? = some (.cells #[.int .i64 v.f0, .bool v.f1, .int .i64 v.f2] 39 (0, 0)) := by rw [hW]; exact Aa5 (Aa6 w (.cells #[.int .i64 v.f0, .bool v.f1, .int .i64 v.f2] 39)) _
 have q1 : W.heap[w.heap.size + 1]? = some (.cells #[.int .i64 0, .bool false, .int .i64 0] 39 (0, 0)) := by
  rw [hW]
  have h_ := Aa6 (w.alloc (.cells #[.int .i64 v.f0, .bool v.f1, .int .i64 v.f2] 39)) (.cells #[.int .i64 0, .bool false, .int .i64 0] 39)
  rw [World.size_alloc] at h_
  exact h_
 have h1 := h.more (p := w.heap.size + 1) hbw (Nat.le_succ _) (by omega)
 have DL : Aa2 (d < w.heap.size) := ⟨h.lt d h.own⟩
 have H0 := zA h
 have H1 := zA h1
 have HG := zA hg
 have K1 := Am2 h1 hs
 have HF := zA (And.intro hf (And.intro hh (And.intro hs.ops hs.frs)))
 have HP := zA hp
 have HMT := zA hmt
 clear hmt
 have B0 := zA hbw
 have Q0 := zA (And.intro q0 q1)
 clear h h1 hs hg hf hh hp hbw q0 q1
 go_enter Tryz.func85, Tryz.ntmps85
 go_wp2_with fail
 rw [← hW]
 clear hW
 refine K1.mono ?_
 rintro e w1 ⟨d2, rfl, hd2, hcp, hb1⟩
 have DN : Aa2 (d ≠ d2 ∧ w.heap.size + 1 < d2 ∧ d2 < w1.heap.size) := ⟨by have := DL.out; omega, by omega, hcp.lt d2 hcp.own⟩
 have CP := zA hcp
 have B1 := zA (B0.out.trans (hb1.mono B0.out.size))
 have BB := zA hb1
 have Q1 := zA (And.intro (Aa3 Q0.out.1 hb1) (Aa3 Q0.out.2 hb1))
 have K2 := Ax3 (H1.out.below hb1) HF.out.1 HF.out.2.1 HF.out.2.2.1 HF.out.2.2.2 HP.out
 clear K1 hd2 hcp hb1 hsz
 go_wp2_with fail
 refine K2.mono ?_
 rintro e w2 ⟨rfl, hst, hch⟩
 have q0 := hch.blk Q1.out.1 (by have := DL.out; omega)
 have q1 := hch.blk Q1.out.2 (by have := DL.out; omega)
 have ST := zA hst
 have CH : Aa2 (Chg (fun x => x = d) W w2) := ⟨(Chg.of_below BB.out (fun _ => False)).trans hch (fun _ e => e.elim) (fun _ e => .inl e)⟩
 have CP2 := zA (CP.out.chgp hch (.inl (.inl H0.out.own)) DN.out.1)
 have N2 : Aa2 (w.heap.size + 1 < w2.heap.size) := ⟨Ac0 q1⟩
 clear hst hch K2
 have b0 := bc_ q0 0
 have b1 := bc_ q0 1
 have b2 := bc_ q0 2
 have p0 := bc_ q1 0
 have p1 := bc_ q1 1
 have p2 := bc_ q1 2
 have f0 := Aa1 q1 0
 have f1 := Aa1 q1 1
 have f2 := Aa1 q1 2
 have Q2 := zA (And.intro q0 q1)
 have l2 := N2.out
 have l1 : w.heap.size < w2.heap.size := by omega
 clear q0 q1
 go_wp2_with fail
 clear l1 l2
 obtain ⟨w3, hw3⟩ : ∃ w3, w3 = w2.alloc (.cells #[.int .i64 x.f0, .bool x.f1, .int .i64 x.f2] 39) := ⟨_, rfl⟩
 rw [← hw3]
 have b3 : Below w2.heap.size w2 w3 := by rw [hw3]; exact bz_
 have r3 : w3.heap[w2.heap.size]? = some (.cells #[.int .i64 x.f0, .bool x.f1, .int .i64 x.f2] 39 (0, 0)) := by rw [hw3]; exact Aa6 w2 _
 have K3 := At5 (ST.out.below b3) HG.out x v
 rw [HMT.out] at K3
 refine K3.mono ?_
 rintro e w4 ⟨rfl, hb4⟩
 have r4 := Aa3 r3 hb4
 have q1 := Aa3 (Aa3 Q2.out.2 b3) hb4
 have R4 := zA (And.intro r4 q1)
 have B4 := zA (b3.trans (hb4.mono b3.size))
 have C4 : Aa2 (Chg (fun x => x = d) W w4) := ⟨CH.out.trans (Chg.of_below B4.out (fun _ => False)) (fun _ e => .inl e) (fun _ e => e.elim)⟩
 clear b0 b1 b2 p0 p1 p2 f0 f1 f2 K3 hb4 hw3 r3 b3
 have x0 := bc_ r4 0
 have x1 := bc_ r4 1
 have x2 := bc_ r4 2
 have p0 := bc_ q1 0
 have p1 := bc_ q1 1
 have p2 := bc_ q1 2
 have f0 := Aa1 q1 0
 have f1 := Aa1 q1 1
 have f2 := Aa1 q1 2
 clear r4 q1
 go_wp2_with fail
 have K4 := Bd0 (k2 := k) (ST.out.below B4.out) (CP2.out.below B4.out) DN.out.1
 dsimp only at K4
 refine K4.mono ?_
 rintro e w5 ⟨rfl, hst5, hch5⟩
 have ST5 := zA hst5
 have C5 := zA (C4.out.trans hch5 (fun _ e => .inl e) (fun _ e => .inl e))
 have q5 := hch5.blk R4.out.2 (by have := DL.out; omega)
 have Q5 := zA q5
 clear K4 hst5 hch5 x0 x1 x2 p0 p1 p2 f0 f1 f2
 have p0 := bc_ q5 0
 have p1 := bc_ q5 1
 have p2 := bc_ q5 2
 have f0 := Aa1 q5 0
 have f1 := Aa1 q5 1
 have f2 := Aa1 q5 2
 clear q5
 go_wp2_with fail
 refine bodyPost_ret (v := .tuple #[.agg #[.int .i64 0, .bool false, .int .i64 0], .int .i64 131]) ?_ rfl ?_
 ·exact Af0 (p := 4) (u := 5) rfl _ _ (w.heap.size + 1) 39 #[.int .i64 0, .bool false, .int .i64 0] (0, 0) _ rfl (Ah9 Q5.out) Tryz.underlying39 rfl (by kernel_rfl)
 exact ⟨rfl, RQ.cell H0.out B0.out (Nat.le_succ _) ST5.out C5.out (Ah8 _ _ _ _ _)⟩
theorem Bh0 (h : R13 E d k w) (hs : Sml k) (hg : GOk k.l) {f : Fr} (hf : k.frames[k.frames.length - 1]? = some f) (hh : f.height ≤ k.ops.length) (v : S39) {er : Int} {x : S39} {o' : List S39} (hp : Ap5 k.l f.height f.dead k.ops v = (er, x, o')) :
  Calls Tryz.prog 85 #[.pointer (some ⟨d, 0, none⟩), .agg #[.int .i64 v.f0, .bool v.f1, .int .i64 v.f2]] w fun e w' => e = .returned (.tuple #[.agg #[.int .i64 x.f0, .bool x.f1, .int .i64 x.f2], .int .i64 er]) ∧ R13 E d { k with ops := o' } w' ∧ Chg (fun x => x = d) w w' := by
 obtain ⟨e1, y, o1, hpm⟩ : ∃ e1 y o1, popM f.height f.dead k.ops = (e1, y, o1) := ⟨_, _, _, rfl⟩
 have hcase : (e1 = 0) ∨ (e1 = 130 ∧ o1 = k.ops) := by
  unfold popM at hpm
  split at hpm
  ·injection hpm with a b
   exact .inl a.symm
  ·split at hpm
   ·injection hpm with a b
    exact .inl a.symm
   ·injection hpm with a b
    injection b with b c
    exact .inr ⟨a.symm, c.symm⟩
 unfold Ap5 at hp
 rw [hpm] at hp
 dsimp only at hp
 rcases hcase with rfl | ⟨rfl, rfl⟩
 ·rw [if_neg (by simp)] at hp
  cases hmt : matM k.l y v with
  | true =>
   rw [if_pos hmt] at hp
   injection hp with a b
   injection b with b c
   subst a b c
   exact Bo6 h hs hg hf hh v y o1 hpm hmt
  | false =>
   rw [if_neg (by rw [hmt]; simp)] at hp
   injection hp with a b
   injection b with b c
   subst a b c
   exact Bo7 h hs hg hf hh v y o1 hpm hmt
 ·rw [if_pos (by simp)] at hp
  injection hp with a b
  injection b with b c
  subst a b c
  exact Bg9 h hs hg hf hh v y k.ops hpm
end
section
variable {E E' : Nat → Prop} {d : Nat} {k k' : Chk} {w : World}
theorem Sml.pop (h : Sml k) {o : List S39} (ho : o.length ≤ k.ops.length) : Sml { k with ops := o } := ⟨h.loc, h.set, h.res, Nat.le_trans ho h.ops, h.frs⟩
structure PR (E : Nat → Prop) (d d2 : Nat) (k : Chk) (w1 : World) (oj : List S39) (W1 : World) : Prop where
 st : R13 E d { k with ops := oj } W1
 cp : R13 (fun y => E y ∨ y = d2) d2 k W1
 chg : Chg (fun x => x = d) w1 W1
theorem PR.next {d2 : Nat} {oj oj' : List S39} {w1 W1 W2 W3 : World} (h : PR E d d2 k w1 oj W1) (hne : d ≠ d2) (h2 : R13 E d { k with ops := oj' } W2) (hc : Chg (fun x => x = d) W1 W2) (hb : Below W2.heap.size W2 W3) : PR E d d2 k w1 oj' W3 :=
 ⟨h2.below hb, (h.cp.chgp hc (.inl h2.own) hne).below hb, (h.chg.trans hc (fun _ e => .inl e) (fun _ e => .inl e)).trans (Chg.of_below hb (fun _ => False)) (fun _ e => .inl e) (fun _ e => e.elim)⟩
set_option maxHeartbeats 8000000 in
theorem Bu1 (h : R13 E d k w) (hs : Sml k) (hg : GOk k.l) {f : Fr} (hf : k.frames[k.frames.length - 1]? = some f) (hh : f.height ≤ k.ops.length) {A : Option Addr} {c : Nat} {l : List S39} (hl : LK k39 E w (.slice A l.length c) l) (hlm : l.length ≤ 4294967296) {er : Int} {o' : List S39} (hp : Al5 k.l f.height f.dead l k.ops = (er, o')) :
  Calls Tryz.prog 48 #[.pointer (some ⟨d, 0, none⟩), .slice A l.length c] w (RQ E d { k with ops := o' } (.int .i64 er) w) := by
 have H0 := zA h
 have K1 := Am2 h hs
 obtain ⟨vl, vlo, vs, vst, vf, vr, h⟩ := h
 obtain ⟨Af, cf, rfl⟩ := h.frs.slice
 have c4 := h.c4
 obtain ⟨m0, hm0⟩ : ∃ m, m = (k.frames.map Fr.q).length := ⟨_, rfl⟩
 rw [← hm0] at c4
 have hmz : m0 ≠ 0 := by rw [hm0, List.length_map]; have := (List.getElem?_eq_some_iff.1 hf).1; omega
 have hz := beq_eq_false_iff_ne.mpr (by omega)
 have hz1 := beq_eq_false_iff_ne.mpr hmz
 have hz2 := decide_eq_false hmz
 have LW := zA hl
 have HG := zA hg
 have HS := zA hs
 have HF := zA (And.intro hf hh)
 have HP := zA hp
 obtain ⟨n, hnl⟩ : ∃ n, n = l.length := ⟨_, rfl⟩
 rw [← hnl] at hlm ⊢
 have HN := zA hnl
 have H9 : Aa2 (n ≤ 4294967296) := ⟨hlm⟩
 have hw0 : wrap64 ((n : Int) - 1) = (n : Int) - 1 := by unfold wrap64; omega
 have DL : Aa2 (d < w.heap.size) := ⟨h.lt d h.own⟩
 clear h hs hg hf hh hl hp hlm hnl hmz hm0
 go_enter Tryz.func48, Tryz.ntmps48
 go_wp2_with fail
 refine K1.mono ?_
 rintro e w1 ⟨d2, rfl, hd2, hcp, hb1⟩
 have DN : Aa2 (d ≠ d2) := ⟨by have := DL.out; omega⟩
 have P1 : Aa2 (PR E d d2 k w1 k.ops w1) := ⟨⟨H0.out.below hb1, hcp, Chg.refl _ _⟩⟩
 have B1 := zA hb1
 clear K1 hd2 hcp hb1 c4 hz hz1 hz2
 go_wp2_with fail
 go_loopw [6] (fun i W1 => ∃ (m : Nat) (oj : List S39), i = .int .i64 ((m : Int) - 1) ∧ m ≤ n ∧ Ah5 k.l f.height f.dead (l.drop m).reverse k.ops = (0, oj) ∧ PR E d d2 k w1 oj W1) (fun i _ => (intOf i + 1).toNat)
 case atStart => exact ⟨n, k.ops, by rw [hw0], Nat.le_refl _, by rw [List.drop_of_length_le (by have := HN.out; omega)]; rfl, P1.out⟩
 case round =>
  clear hw0
  obtain ⟨m, oj, rfl, hmn, hr, hpq⟩ := hrel
  have HR := zA hr
  have PP := zA hpq
  clear hr hpq
  rcases Nat.eq_zero_or_pos m with hm0 | hm0
  ·subst hm0
   have e0 : (((0 : Nat) : Int) - 1) = -1 := rfl
   rw [e0]
   clear e0
   go_wp2_with fail
   go_ret
   have h1 := HR.out
   rw [List.drop_zero] at h1
   have h2 := Ba3 h1
   rw [if_pos rfl] at h2
   have h3 := HP.out.symm.trans h2
   injection h3 with h3 h4
   subst h3 h4
   exact ⟨rfl, PP.out.st, (Chg.of_below B1.out (fun _ => False)).trans PP.out.chg (fun _ e => e.elim) (fun _ e => .inl e)⟩
  ·obtain ⟨m', rfl⟩ : ∃ m', m = m' + 1 := ⟨m - 1, by omega⟩
   have e1 : (((m' + 1 : Nat) : Int) - 1) = (m' : Int) := by omega
   rw [e1]
   obtain ⟨x, hx⟩ : ∃ x, l[m']? = some x := ⟨_, List.getElem?_eq_getElem (by have := HN.out; omega)⟩
   have hoj : f.height ≤ oj.length ∧ oj.length ≤ k.ops.length := by
    have h1 := Bd1 (l := k.l) (dead := f.dead) (l.drop (m' + 1)).reverse k.ops HF.out.2
    rw [HR.out] at h1
    exact h1
   obtain ⟨er1, x1, o1, hpt⟩ : ∃ er1 x1 o1, Ap5 k.l f.height f.dead oj x = (er1, x1, o1) := ⟨_, _, _, rfl⟩
   have K := Bh0 PP.out.st (HS.out.pop hoj.2) HG.out HF.out.1 hoj.1 x hpt
   have LL := (LW.out.below B1.out).dstep H0.out.own PP.out.chg
   obtain ⟨ad, eA, y0, y1, y2⟩ := Bg7 LL.reads.2.2 hx
   have eA' : A = some ad := eA
   subst eA'
   have HX := zA hx
   have HPT := zA hpt
   have HR2 : Aa2 (Ah5 k.l f.height f.dead (l.drop m').reverse k.ops = if er1 = 0 then (0, o1) else (er1, oj)) := ⟨by
    rw [Bz1 l m' x hx, Bi5 _ _ _ (by rw [HR.out]), HR.out]
    dsimp only
    rw [hpt]⟩
   have HM := zA hmn
   have hm1 : m' < n := by omega
   have hm2 : (m' : Int) < n := by omega
   have hm3 : m' ≤ 4294967296 := by have := H9.out; omega
   clear e1 hx hoj hpt LL eA hmn hm0
   by_cases he : er1 = 0
   ·subst he
    have HR3 : Aa2 (Ah5 k.l f.height f.dead (l.drop m').reverse k.ops = (0, o1)) := ⟨by rw [HR2.out, if_pos rfl]⟩
    go_wp2_with fail
    refine K.mono ?_
    rintro e w2 ⟨rfl, hst, hch⟩
    have P2 : Aa2 (PR E d d2 k w1 o1 (w2.alloc (.cells #[.int .i64 x1.f0, .bool x1.f1, .int .i64 x1.f2] 39))) := ⟨PP.out.next DN.out hst hch (bz_)⟩
    clear hst hch K y0 y1 y2
    go_wp2_with fail
    go_roundw
    case rel => exact ⟨m', o1, rfl, by omega, HR3.out, P2.out⟩
    case measure => simp [intOf] <;> omega
   ·have hne : (er1 != 0) = true := by simp [he]
    have HR3 : Aa2 (Ah5 k.l f.height f.dead (l.drop m').reverse k.ops = (er1, oj)) := ⟨by rw [HR2.out, if_neg he]⟩
    have HE := zA he
    clear he
    go_wp2_with fail
    refine K.mono ?_
    rintro e w2 ⟨rfl, hst, hch⟩
    obtain ⟨w3, hw3⟩ : ∃ w3, w3 = (w2.alloc (.cells #[.int .i64 x1.f0, .bool x1.f1, .int .i64 x1.f2] 39)) := ⟨_, rfl⟩
    have P2 : Aa2 (PR E d d2 k w1 o1 w3) := ⟨PP.out.next DN.out hst hch (by rw [hw3]; exact bz_)⟩
    clear hst hch K y0 y1 y2
    go_wp2_with fail
    rw [← hw3]
    clear hw3
    have K4 := Bd0 (k2 := k) P2.out.st P2.out.cp DN.out
    dsimp only at K4
    refine K4.mono ?_
    rintro e w4 ⟨rfl, hst5, hch5⟩
    have ST5 := zA hst5
    have C5 := zA (P2.out.chg.trans hch5 (fun _ e => .inl e) (fun _ e => .inl e))
    clear K4 hst5 hch5
    go_wp2_with fail
    go_ret
    have h1 : Ah5 k.l f.height f.dead l.reverse k.ops = (er1, oj) := by
     rw [Bn9 l m', Bi4 _ _ _ (by rw [HR3.out]; exact HE.out), HR3.out]
    have h2 := Ba3 h1
    rw [if_neg HE.out] at h2
    have h3 := HP.out.symm.trans h2
    injection h3 with h3 h4
    subst h3 h4
    exact ⟨rfl, ST5.out, (Chg.of_below B1.out (fun _ => False)).trans C5.out (fun _ e => e.elim) (fun _ e => .inl e)⟩
theorem Bt9 (h : R13 E d k w) (hs : Sml k) (hg : GOk k.l) {f : Fr} (hf : k.frames[k.frames.length - 1]? = some f) (hh : f.height ≤ k.ops.length) (hm : k.ops.length ≤ 2147483647) {A1 A2 : Option Addr} {c1 c2 : Nat} {l1 l2 : List S39} (h1 : LK k39 E w (.slice A1 l1.length c1) l1) (h2 : LK k39 E w (.slice A2 l2.length c2) l2) (hl1 : l1.length ≤ 2147483648) (hl2 : l2.length ≤ 2147483648) {er : Int} {o' : List S39} (hp : Al5 k.l f.height f.dead l1 k.ops = (er, o')) :
  Calls Tryz.prog 15 #[.pointer (some ⟨d, 0, none⟩), .slice A1 l1.length c1, .slice A2 l2.length c2] w (RQ E d { k with ops := if er = 0 then o' ++ l2 else k.ops } (.int .i64 er) w) := by
 have K1 := Bu1 h hs hg hf hh h1 (by omega) hp
 have ho : o'.length ≤ k.ops.length := by have h3 := (Bd2 (l := k.l) (dead := f.dead) l1 k.ops hh).2; rw [hp] at h3; exact h3
 have HE := zA h.own
 have H2 := zA h2
 have HO := zA (And.intro ho hm)
 have HL2 := zA hl2
 have HF := zA (show 0 < k.frames.length by have := (List.getElem?_eq_some_iff.1 hf).1; omega)
 obtain ⟨n1, hn1⟩ : ∃ n1, n1 = l1.length := ⟨_, rfl⟩
 obtain ⟨n2, hn2⟩ : ∃ n2, n2 = l2.length := ⟨_, rfl⟩
 rw [← hn1] at K1 ⊢
 rw [← hn2] at H2 ⊢
 have HN2 := zA hn2
 have HZ : Aa2 (er ≠ 0 → o' = k.ops) := ⟨fun he => Bi6 hp he⟩
 clear h hs hg hf hh hm h1 h2 hl1 hl2 hp ho hn1 hn2
 by_cases he : er = 0
 ·subst he
  rw [if_pos rfl]
  go_enter Tryz.func15, Tryz.ntmps15
  go_wp2_with fail
  refine K1.mono ?_
  rintro e w2 ⟨rfl, hk, hc⟩
  have Q1 := zA hk
  have C1 := zA hc
  have L2 := zA (H2.out.dstep HE.out hc)
  clear hk hc K1
  go_wp2_with fail
  have K2 := Al4 Q1.out (A := A2) (c := c2) (l := l2) (by have h_ := L2.out; rw [HN2.out] at h_; exact h_) HF.out (by have := HO.out; have := HL2.out; dsimp only; omega)
  rw [← HN2.out] at K2
  refine K2.mono ?_
  rintro e w3 ⟨rfl, hk2, hc2⟩
  have Q2 := zA hk2
  have C2 := zA (C1.out.trans hc2 (fun _ e => .inl e) (fun _ e => .inl e))
  clear hk2 hc2 K2
  go_wp2_with fail
  go_ret
  exact ⟨rfl, Q2.out, C2.out⟩
 ·have hne : (er != 0) = true := by simp [he]
  rw [if_neg he]
  have HZ2 := zA (HZ.out he)
  clear he
  go_enter Tryz.func15, Tryz.ntmps15
  go_wp2_with fail
  refine K1.mono ?_
  rintro e w2 ⟨rfl, hk, hc⟩
  have Q1 := zA hk
  have C1 := zA hc
  clear hk hc K1
  go_wp2_with fail
  go_ret
  exact ⟨rfl, by have h_ := Q1.out; rw [HZ2.out] at h_; exact h_, C1.out⟩
end
set_option maxHeartbeats 4000000 in
theorem Bv4 {A0 : Option Addr} {c0 : Nat} {l0 : List S132} {A1 : Option Addr} {n1 c1 : Nat} {A2 : Option Addr} {n2 c2 : Nat} {A3 : Option Addr} {n3 c3 : Nat} {A4 : Option Addr} {n4 c4 : Nat} {A5 : Option Addr} {n5 c5 : Nat} {A6 : Option Addr} {n6 c6 : Nat} {A8 : Option Addr} {n8 c8 : Nat} {d7 : Int} (v : S39) (w : World) (hC : Kd.C k132 w A0 l0.length l0) (hc : l0.length ≤ c0) (hb : vL l0 ≤ 1048576) :
  Calls Tryz.prog 41 #[.agg #[.slice A0 l0.length c0, .slice A1 n1 c1, .slice A2 n2 c2, .slice A3 n3 c3, .slice A4 n4 c4, .slice A5 n5 c5, .slice A6 n6 c6, .int .i64 d7, .slice A8 n8 c8], .agg #[.int .i64 v.f0, .bool v.f1, .int .i64 v.f2]] w fun e w' => e = .returned (.bool (!decide (v.f0 = 5 ∧ (v.f2 < -12 ∨ (Af1 l0 : Int) ≤ v.f2)))) ∧ Below w.heap.size w w' := by
 obtain ⟨rb, hrb⟩ : ∃ rb, rb = (!decide (v.f0 = 5 ∧ (v.f2 < -12 ∨ (Af1 l0 : Int) ≤ v.f2))) := ⟨_, rfl⟩
 rw [← hrb]
 have HRB := zA hrb
 obtain ⟨W, hW⟩ : ∃ W, W = World.drew ((w.alloc (.cells #[.slice A0 l0.length c0, .slice A1 n1 c1, .slice A2 n2 c2, .slice A3 n3 c3, .slice A4 n4 c4, .slice A5 n5 c5, .slice A6 n6 c6, .int .i64 d7, .slice A8 n8 c8] 30)).alloc (.cells #[.int .i64 v.f0, .bool v.f1, .int .i64 v.f2] 39)) := ⟨_, rfl⟩
 have b1 : Below w.heap.size w W := by rw [hW]; exact ((bz_).alloc (by simp) _).drew
 have q0 : W.heap[w.heap.size]? = some (.cells #[.slice A0 l0.length c0, .slice A1 n1 c1, .slice A2 n2 c2, .slice A3 n3 c3, .slice A4 n4 c4, .slice A5 n5 c5, .slice A6 n6 c6, .int .i64 d7, .slice A8 n8 c8] 30 (0, 0)) := by rw [hW]; exact Aa5 (Aa6 w _) _
 have q1 : W.heap[w.heap.size + 1]? = some (.cells #[.int .i64 v.f0, .bool v.f1, .int .i64 v.f2] 39 (0, 0)) := by
  rw [hW]
  have h_ := Aa6 (w.alloc (.cells #[.slice A0 l0.length c0, .slice A1 n1 c1, .slice A2 n2 c2, .slice A3 n3 c3, .slice A4 n4 c4, .slice A5 n5 c5, .slice A6 n6 c6, .int .i64 d7, .slice A8 n8 c8] 30)) (.cells #[.int .i64 v.f0, .bool v.f1, .int .i64 v.f2] 39)
  rw [World.size_alloc] at h_
  exact h_
 have x0 : W.cell? ⟨w.heap.size, 0, none⟩ = some (.slice A0 l0.length c0) := bc_ q0 0
 have y0 : W.cell? ⟨w.heap.size + 1, 0, none⟩ = some (.int .i64 v.f0) := bc_ q1 0
 have y2 : W.cell? ⟨w.heap.size + 1, 2, none⟩ = some (.int .i64 v.f2) := bc_ q1 2
 have KC := ratchetref05_Count.calls _ A0 c0 l0 _ W (Kd.Ab1 hC b1) hc (countR l0 hb)
 have B1 := zA b1
 clear hC hc hb hrb b1 q0 q1
 go_enter Tryz.func41, Tryz.ntmps41
 go_wp2_with fail
 by_cases h5 : v.f0 = 5
 ·have g5 : (v.f0 != 5) = false := by simp [h5]
  by_cases h12 : -12 ≤ v.f2
  ·have g12 : decide (-12 ≤ v.f2) = true := decide_eq_true h12
   have HR : Aa2 (rb = decide (v.f2 < (Af1 l0 : Int))) := ⟨by rw [HRB.out, Bool.eq_iff_iff]; simp [h5]; omega⟩
   clear h5 h12
   refine Ab3 (n := 17) (S := fun w' => w'.cell? ⟨w.heap.size, 0, none⟩ = some (.slice A0 l0.length c0) ∧ w'.cell? ⟨w.heap.size + 1, 0, none⟩ = some (.int .i64 v.f0) ∧ w'.cell? ⟨w.heap.size + 1, 2, none⟩ = some (.int .i64 v.f2)) (ds := []) (bm_ 17 0) (by kernel_rfl) rfl rfl ⟨(by rw [← hW]; exact x0), (by rw [← hW]; exact y0), (by rw [← hW]; exact y2)⟩ (fun hHeld => ?_)
   rw [← hW] at hHeld ⊢
   clear hW x0 y0 y2
   refine pz_ 0 5 17 1 ?_
   refine tz_ 1 6 17 3 hHeld ?_
   refine pz_ 2 7 17 7 ?_
   refine pz_ 3 8 17 15 ?_
   refine pz_ 4 9 17 31 ?_
   refine tz_ 5 10 17 63 hHeld ?_
   refine pz_ 6 11 17 127 ?_
   refine pz_ 7 12 17 255 ?_
   refine pz_ 8 13 17 511 ?_
   refine pz_ 10 15 17 1535 ?_
   refine tz_ 9 14 17 2047 hHeld ?_
   refine tz_ 11 16 17 4095 hHeld ?_
   refine oz_ 12 17 17 8191 fun K hK => ?_
   refine gz_ Tryz.func81 #[.slice A0 l0.length c0] ?_
   with_reducible refine (KC).mono ?_
   rintro e w3 ⟨rfl, hb_⟩
   obtain ⟨m_, hb_⟩ := hb_
   have hb2 := below_drewN (Below.refl W.heap.size W) m_
   rw [← hb_] at hb2
   have B3 := zA (B1.out.trans (hb2.mono B1.out.size))
   refine ⟨_, rfl, ?_⟩
   refine hK.out _ _ ⟨hb2.kp hHeld.1, hb2.kp hHeld.2.1, hb2.kp hHeld.2.2⟩ (fun hHeld => ?_)
   clear hK K
   refine nz_ ?_
   refine pz_ 13 18 17 16383 ?_
   refine pz_ 14 19 17 32767 ?_
   refine pz_ 15 20 17 65535 ?_
   refine pz_ 16 4 17 131071 ?_
   refine dz_ ?_
   go_wp2_with fail
   go_ret
   exact ⟨by rw [HR.out]; rfl, B3.out⟩
  ·have g12 : decide (-12 ≤ v.f2) = false := decide_eq_false h12
   obtain rfl : rb = false := HRB.out.trans (by simp [h5]; omega)
   clear h5 h12
   refine Ab3 (n := 17) (S := fun w' => w'.cell? ⟨w.heap.size, 0, none⟩ = some (.slice A0 l0.length c0) ∧ w'.cell? ⟨w.heap.size + 1, 0, none⟩ = some (.int .i64 v.f0) ∧ w'.cell? ⟨w.heap.size + 1, 2, none⟩ = some (.int .i64 v.f2)) (ds := []) (bm_ 17 0) (by kernel_rfl) rfl rfl ⟨(by rw [← hW]; exact x0), (by rw [← hW]; exact y0), (by rw [← hW]; exact y2)⟩ (fun hHeld => ?_)
   rw [← hW] at hHeld ⊢
   clear hW x0 y0 y2
   refine pz_ 0 5 17 1 ?_
   refine tz_ 1 6 17 3 hHeld ?_
   refine pz_ 2 7 17 7 ?_
   refine pz_ 3 8 17 15 ?_
   refine pz_ 4 9 17 31 ?_
   refine tz_ 5 10 17 63 hHeld ?_
   refine pz_ 6 11 17 127 ?_
   refine pz_ 7 12 17 255 ?_
   refine uz_ 8 13 17 511 ?_
   refine uz_ 9 14 17 1023 ?_
   refine uz_ 10 15 17 2047 ?_
   refine uz_ 11 16 17 4095 ?_
   refine uz_ 12 17 17 8191 ?_
   refine uz_ 13 18 17 16383 ?_
   refine pz_ 14 19 17 32767 ?_
   refine pz_ 15 20 17 65535 ?_
   refine pz_ 16 4 17 131071 ?_
   refine dz_ ?_
   go_wp2_with fail
   go_ret
   exact ⟨rfl, B1.out⟩
 ·have g5 : (v.f0 != 5) = true := by simp [h5]
  obtain rfl : rb = true := HRB.out.trans (by simp [h5])
  clear h5
  refine Ab3 (n := 17) (S := fun w' => w'.cell? ⟨w.heap.size, 0, none⟩ = some (.slice A0 l0.length c0) ∧ w'.cell? ⟨w.heap.size + 1, 0, none⟩ = some (.int .i64 v.f0) ∧ w'.cell? ⟨w.heap.size + 1, 2, none⟩ = some (.int .i64 v.f2)) (ds := []) (bm_ 17 0) (by kernel_rfl) rfl rfl ⟨(by rw [← hW]; exact x0), (by rw [← hW]; exact y0), (by rw [← hW]; exact y2)⟩ (fun hHeld => ?_)
  rw [← hW] at hHeld ⊢
  clear hW x0 y0 y2
  refine pz_ 0 5 17 1 ?_
  refine tz_ 1 6 17 3 hHeld ?_
  refine pz_ 2 7 17 7 ?_
  refine pz_ 3 8 17 15 ?_
  refine uz_ 4 9 17 31 ?_
  refine uz_ 5 10 17 63 ?_
  refine uz_ 6 11 17 127 ?_
  refine uz_ 7 12 17 255 ?_
  refine uz_ 8 13 17 511 ?_
  refine uz_ 9 14 17 1023 ?_
  refine uz_ 10 15 17 2047 ?_
  refine uz_ 11 16 17 4095 ?_
  refine uz_ 12 17 17 8191 ?_
  refine uz_ 13 18 17 16383 ?_
  refine uz_ 14 19 17 32767 ?_
  refine pz_ 15 20 17 65535 ?_
  refine pz_ 16 4 17 131071 ?_
  refine dz_ ?_
  go_wp2_with fail
  go_ret
  exact ⟨rfl, B1.out⟩
def VL (w0 : World) (b : Nat) (w' : World) (v : Value) (xs : List S39) : Prop := (∃ A c, v = .slice A xs.length c ∧ xs.length ≤ c) ∧ ∀ S : Nat → Prop, (∀ x, S x → w0.heap.size ≤ x ∧ x < b) → LK k39 S w' v xs
theorem VL.nil (w0 : World) (b : Nat) (w' : World) : VL w0 b w' (.slice none 0 0) [] := ⟨⟨none, 0, rfl, Nat.le_refl _⟩, fun S _ => LK.nil _ S w'⟩
theorem VL.of {w0 w' : World} {b : Nat} {v : Value} {xs : List S39} (h : VR w0 v xs) (hb : Below w0.heap.size w0 w') : VL w0 b w' v xs := by
 obtain ⟨A, c, rfl, h2, h3⟩ := h
 exact ⟨⟨A, c, rfl, h2⟩, fun S hS => LK.lent Af8 h2 h3 hb (fun x e => (hS x e).1)⟩
theorem VL.down {w0 w' : World} {b b' : Nat} {v : Value} {xs : List S39} (h : VL w0 b w' v xs) (hb : b' ≤ b) : VL w0 b' w' v xs := ⟨h.1, fun S hS => h.2 S (fun x e => ⟨(hS x e).1, Nat.lt_of_lt_of_le (hS x e).2 hb⟩)⟩
theorem VL.one {w0 w5 : World} {b : Nat} (v : S39) (T : TypeId) (hb : b ≤ w5.heap.size) : VL w0 b (w5.alloc (.cells #[.int .i64 v.f0, .bool v.f1, .int .i64 v.f2] T)) (.slice (some ⟨w5.heap.size, 0, none⟩) 1 1) [v] :=
 ⟨⟨_, _, rfl, Nat.le_refl _⟩, fun S hS => VQ.lk (VQ.one w5 v T hb) (fun x e => (hS x e).2)⟩
def RAtL (w0 : World) (s? : Option S123) (w : World) (e : Ending) (w' : World) : Prop :=
 match s? with
 | some s => ∃ (E1 : Option Addr) (n1 m1 : Nat) (v2 v3 : Value) (E4 : Option Addr) (n4 m4 : Nat) (i p : Int), e = .returned (.tuple #[.agg #[.bool s.f0, .slice E1 n1 m1, .int .i64 s.f2.f0, v2, v3, .slice E4 n4 m4], .int .i64 i, .int .i64 p, .bool true]) ∧ VR w0 v2 s.f2.f1 ∧ VR w0 v3 s.f2.f2 ∧ Below w.heap.size w w'
 | none => e = .returned (.tuple #[.agg #[.bool false, .slice none 0 0, .int .i64 0, .slice none 0 0, .slice none 0 0, .slice none 0 0], .int .i64 0, .int .i64 0, .bool false]) ∧ Below w.heap.size w w'
def FtL (w0 : World) (r : List S39 × List S39 × Int) (w : World) (e : Ending) (w' : World) : Prop :=
 ∃ v1 v2, e = .returned (.tuple #[v1, v2, .int .i64 r.2.2]) ∧ VL w0 w.heap.size w' v1 r.1 ∧ VL w0 w.heap.size w' v2 r.2.1 ∧ Below w.heap.size w w'
set_option maxHeartbeats 8000000 in
theorem rAt_from (w0 : World) (A : Option Addr) (c : Nat) (l : List S132) (n : Int) (w : World) (hw0 : Below w0.heap.size w0 w) (hC : Kd.C k132 w0 A l.length l) (hb : vL l ≤ 1048576) (hn : NV64 n) :
  Calls Tryz.prog 59 #[.slice A l.length c, .int .i64 n] w (RAtL w0 (atN l n) w) := by
 have HC := zA hC
 have hcnt := Av1 l
 have HN := zA hn
 have hll : l.length ≤ 1048576 := by omega
 have b0 : Below w.heap.size w (w.alloc (.cells #[.bool false, .slice none 0 0, .int .i64 0, .slice none 0 0, .slice none 0 0, .slice none 0 0] 123)) := bz_
 have HB := zA (hw0.trans (b0.mono hw0.size))
 clear hC hcnt hb hn b0 hw0
 go_enter Tryz.func59, Tryz.ntmps59
 by_cases hneg : n < 0
 ·have EN : Aa2 (atN l n = none) := ⟨by simp [atN, hneg]⟩
  rw [EN.out]
  go_wp2_with fail
  refine bodyPost_ret (Ag0 rfl _ _ w.heap.size #[.bool false, .slice none 0 0, .int .i64 0, .slice none 0 0, .slice none 0 0, .slice none 0 0] rfl (run_loadVar_row _ _ 123 123 _ (0, 0) _ (Aa6 w _) Tryz.underlying123 rfl (by kernel_rfl))) rfl ?_
  exact ⟨rfl, bz_⟩
 have n0 : 0 ≤ n := by omega
 have N0 := zA n0
 have EA : Aa2 (atN l n = atV l n) := ⟨by simp [atN, hneg]⟩
 clear hneg
 go_wp2_with fail
 clear n0
 go_loopw [1, 8] (fun v i W => ∃ (j : Nat) (x : Int), i = .int .i64 j ∧ j ≤ l.length ∧ v = .int .i64 x ∧ 0 ≤ x ∧ x ≤ n ∧ atV (l.drop j) x = atV l n ∧ W = w.alloc (.cells #[.bool false, .slice none 0 0, .int .i64 0, .slice none 0 0, .slice none 0 0, .slice none 0 0] 123)) (fun _ i _ => l.length - (intOf i).toNat)
 case atStart => exact ⟨0, n, rfl, Nat.zero_le _, rfl, N0.out, Int.le_refl _, rfl, rfl⟩
 case round =>
  obtain ⟨j, x, rfl, hj, rfl, x0, xn, hx, rfl⟩ := hrel
  have HX := zA hx
  have XN := zA xn
  clear hx xn
  have j0 : (0 : Int) ≤ (j : Int) := Int.natCast_nonneg j
  by_cases hlj : j < l.length
  ·obtain ⟨ad, Ar, cr, ea, d0, d1, hrc, hrC⟩ := Aq1 HC.out (j : Int) j0 (by omega)
   subst ea
   have HRJ := zA (Av3 l j hlj)
   simp only [Int.toNat_natCast] at d0 d1
   obtain ⟨r, hre⟩ : ∃ r, r = Ad5 l (j : Int) := ⟨_, rfl⟩
   rw [← hre] at d0 d1 hrc hrC HRJ
   clear hre
   have HRC := zA hrC
   replace d0 := (HB.out.cell (World.block_lt_of_cell? w0 _ d0)).trans d0
   have jl : (j : Int) < (l.length : Int) := by omega
   clear hrC hrc d1
   by_cases hxr : x < (r.f0.length : Int)
   ·obtain ⟨ae, A1, c1, A3, c3, A4, c4, A5, c5, eb, e0, e1, e2, e3, e4, e5, m1, r1, m3, r3, m4, r4, m5, r5⟩ := An8 HRC.out x x0 hxr
    subst eb
    obtain ⟨s, hs⟩ : ∃ s, s = Ac2 r.f0 x := ⟨_, rfl⟩
    rw [← hs] at e0 e1 e2 e3 e4 e5 m1 r1 m3 r3 m4 r4 m5 r5
    have hsg : r.f0[x.toNat]? = some s := by
     rw [hs]; unfold Ac2
     rw [List.getD_eq_getElem?_getD, List.getElem?_eq_getElem (by omega)]; rfl
    have EV : Aa2 (atN l n = some s) := ⟨by rw [EA.out, ← HX.out, Bm6 HRJ.out]; unfold atV; rw [if_pos hxr, hsg]⟩
    have RR := zA (And.intro (And.intro m3 r3) (And.intro m4 r4))
    rw [EV.out]
    replace e0 := (HB.out.cell (World.block_lt_of_cell? w0 _ e0)).trans e0
    replace e1 := (HB.out.cell (World.block_lt_of_cell? w0 _ e1)).trans e1
    replace e2 := (HB.out.cell (World.block_lt_of_cell? w0 _ e2)).trans e2
    replace e3 := (HB.out.cell (World.block_lt_of_cell? w0 _ e3)).trans e3
    replace e4 := (HB.out.cell (World.block_lt_of_cell? w0 _ e4)).trans e4
    replace e5 := (HB.out.cell (World.block_lt_of_cell? w0 _ e5)).trans e5
    clear m1 r1 m3 r3 m4 r4 m5 r5 hs hsg
    go_wp2_with fail
    have hbl : Below w.heap.size w (w.alloc (.cells #[.bool s.f0, .slice A1 s.f1.length c1, .int .i64 s.f2.f0, .slice A3 s.f2.f1.length c3, .slice A4 s.f2.f2.length c4, .slice A5 s.f2.f3.length c5] 123)) := bz_
    refine bodyPost_ret (Ag0 rfl _ _ w.heap.size #[.bool s.f0, .slice A1 s.f1.length c1, .int .i64 s.f2.f0, .slice A3 s.f2.f1.length c3, .slice A4 s.f2.f2.length c4, .slice A5 s.f2.f3.length c5] rfl (run_loadVar_row _ _ 123 123 _ (0, 0) _ (Aa6 w _) Tryz.underlying123 rfl (by kernel_rfl))) rfl ?_
    exact ⟨_, _, _, _, _, _, _, _, _, _, rfl, ⟨_, _, rfl, RR.out.1.1, RR.out.1.2⟩, ⟨_, _, rfl, RR.out.2.1, RR.out.2.2⟩, hbl⟩
   ·have hwx : wrap64 (x - (r.f0.length : Int)) = x - r.f0.length := by
     have h1 := HN.out
     have h2 := XN.out
     unfold NV64 at h1
     unfold wrap64; omega
    go_wp2_with fail
    go_roundw
    case rel => exact ⟨j + 1, x - r.f0.length, by go_num, by omega, by rw [hwx], by omega, by have := XN.out; omega, by rw [← HX.out, Bm6 HRJ.out]; conv => rhs; unfold atV; rw [if_neg hxr], trivial⟩
    case measure => simp [intOf]; omega
  ·obtain rfl : j = l.length := by omega
   have EN : Aa2 (atN l n = none) := ⟨by rw [EA.out, ← HX.out, List.drop_length]; rfl⟩
   clear hj hlj
   go_wp2_with fail
   refine bodyPost_ret (Ag0 rfl _ _ w.heap.size #[.bool false, .slice none 0 0, .int .i64 0, .slice none 0 0, .slice none 0 0, .slice none 0 0] rfl (run_loadVar_row _ _ 123 123 _ (0, 0) _ (Aa6 w _) Tryz.underlying123 rfl (by kernel_rfl))) rfl ?_
   rw [EN.out]
   exact ⟨rfl, bz_⟩
set_option maxHeartbeats 8000000 in
theorem Bg8 (w0 : World) (A0 : Option Addr) (c0 : Nat) (l0 : List S132) (A1 : Option Addr) (c1 : Nat) (l1 : List Int) (A2 : Option Addr) (c2 : Nat) (l2 : List S214) (A3 : Option Addr) (c3 : Nat) (l3 : List S212) (A4 : Option Addr) (c4 : Nat) (l4 : List S292) (A5 : Option Addr) (c5 : Nat) (l5 : List Int) (A6 : Option Addr) (c6 : Nat) (l6 : List S39) (d7 : Int) (A8 : Option Addr) (c8 : Nat) (l8 : List Bool) (n : Int) (w : World) (hw0 : Below w0.heap.size w0 w) (hx : XIn w0 A0 c0 l0 A1 c1 l1 A2 c2 l2 A3 c3 l3 A4 c4 l4 A5 c5 l5 A6 c6 l6 d7 A8 c8 l8) (hn : NV64 n) :
  Calls Tryz.prog 24 #[.agg #[.slice A0 l0.length c0, .slice A1 l1.length c1, .slice A2 l2.length c2, .slice A3 l3.length c3, .slice A4 l4.length c4, .slice A5 l5.length c5, .slice A6 l6.length c6, .int .i64 d7, .slice A8 l8.length c8], .int .i64 n] w (FtL w0 (ftV l0 n) w) := by
 obtain ⟨W1, hW1⟩ : ∃ W1, W1 = w.alloc (.cells #[.slice A0 l0.length c0, .slice A1 l1.length c1, .slice A2 l2.length c2, .slice A3 l3.length c3, .slice A4 l4.length c4, .slice A5 l5.length c5, .slice A6 l6.length c6, .int .i64 d7, .slice A8 l8.length c8] 30) := ⟨_, rfl⟩
 have b1 : Below w.heap.size w W1 := by rw [hW1]; exact bz_
 have B1 := zA b1
 have H0 := zA hw0
 have K := rAt_from w0 A0 c0 l0 n W1 (hw0.trans (b1.mono hw0.size)) hx.r0 hx.bulk hn
 clear b1 hx hn hw0
 cases hs : atN l0 n with
 | none =>
  have EV : ftV l0 n = ([], [], 150) := by unfold ftV; rw [hs]
  rw [EV]
  rw [hs] at K
  clear hs EV
  go_enter Tryz.func24, Tryz.ntmps24
  go_wp2_with fail
  rw [← hW1]
  clear hW1
  refine K.mono ?_
  rintro e w2 ⟨rfl, hb⟩
  have B2 := zA (B1.out.trans (hb.mono B1.out.size))
  clear hb K
  go_wp2_with fail
  refine bodyPost_ret (results_tmp3 rfl _ _ _) rfl ?_
  exact ⟨_, _, rfl, VL.nil _ _ _, VL.nil _ _ _, B2.out.alloc B2.out.size _⟩
 | some t =>
  have EV : ftV l0 n = if t.f2.f0 = 1 then (t.f2.f1, t.f2.f2, 0) else ([], [], 151) := by unfold ftV; rw [hs]
  rw [EV]
  rw [hs] at K
  clear hs EV
  by_cases hk : t.f2.f0 = 1
  ·rw [if_pos hk]
   have ek : (t.f2.f0 != 1) = false := by simp [hk]
   clear hk
   go_enter Tryz.func24, Tryz.ntmps24
   go_wp2_with fail
   rw [← hW1]
   clear hW1
   refine K.mono ?_
   rintro e w2 ⟨E1, n1, m1, v2, v3, E4, n4, m4, i, p, rfl, hr2, hr3, hb⟩
   have B2 := zA (B1.out.trans (hb.mono B1.out.size))
   have R2 := zA hr2
   have R3 := zA hr3
   obtain ⟨D2, d2, e2, l2_, x2⟩ := hr2
   obtain ⟨D3, d3, e3, l3_, x3⟩ := hr3
   subst e2 e3
   clear x2 x3 l2_ l3_ hb K
   obtain ⟨W3, hW3⟩ : ∃ W3, W3 = w2.alloc (.cells #[.bool t.f0, .slice E1 n1 m1, .int .i64 t.f2.f0, .slice D2 t.f2.f1.length d2, .slice D3 t.f2.f2.length d3, .slice E4 n4 m4] 123) := ⟨_, rfl⟩
   have B3 : Aa2 (Below w.heap.size w W3) := ⟨by rw [hW3]; exact B2.out.alloc B2.out.size _⟩
   have BB : Aa2 (Below w2.heap.size w2 W3) := ⟨by rw [hW3]; exact bz_⟩
   have hq : W3.heap[w2.heap.size]? = some (.cells #[.bool t.f0, .slice E1 n1 m1, .int .i64 t.f2.f0, .slice D2 t.f2.f1.length d2, .slice D3 t.f2.f2.length d3, .slice E4 n4 m4] 123 (0, 0)) := by rw [hW3]; exact Aa6 w2 _
   have z3 : W3.cell? ⟨w2.heap.size, 3, none⟩ = some (.slice D2 t.f2.f1.length d2) := (Aa0 hq 3).trans rfl
   have z4 : W3.cell? ⟨w2.heap.size, 4, none⟩ = some (.slice D3 t.f2.f2.length d3) := (Aa0 hq 4).trans rfl
   clear hq
   go_wp2_with fail
   rw [← hW3]
   clear hW3
   refine Ab3 (n := 9) (S := fun w' => w'.cell? ⟨w2.heap.size, 3, none⟩ = some (.slice D2 t.f2.f1.length d2) ∧ w'.cell? ⟨w2.heap.size, 4, none⟩ = some (.slice D3 t.f2.f2.length d3)) (ds := []) (bm_ 9 0) (by kernel_rfl) rfl rfl ⟨z3, z4⟩ (fun hHeld => ?_)
   refine pz_ 0 26 9 1 ?_
   refine pz_ 1 27 9 3 ?_
   refine pz_ 3 29 9 11 ?_
   refine pz_ 4 30 9 27 ?_
   refine tz_ 2 28 9 31 hHeld ?_
   refine pz_ 6 4 9 95 ?_
   refine tz_ 5 31 9 127 hHeld ?_
   refine pz_ 7 5 9 255 ?_
   refine pz_ 8 6 9 511 ?_
   refine dz_ ?_
   go_wp2_with fail
   refine bodyPost_ret (results_tmp3 rfl _ _ _) rfl ?_
   exact ⟨_, _, rfl, VL.of R2.out (H0.out.trans (B3.out.drew.mono H0.out.size)), VL.of R3.out (H0.out.trans (B3.out.drew.mono H0.out.size)), B3.out.drew⟩
  ·rw [if_neg hk]
   have ek : (t.f2.f0 != 1) = true := by simp [hk]
   clear hk
   go_enter Tryz.func24, Tryz.ntmps24
   go_wp2_with fail
   rw [← hW1]
   clear hW1
   refine K.mono ?_
   rintro e w2 ⟨E1, n1, m1, v2, v3, E4, n4, m4, i, p, rfl, hr2, hr3, hb⟩
   have B2 := zA (B1.out.trans (hb.mono B1.out.size))
   obtain ⟨D2, d2, e2, l2_, x2⟩ := hr2
   obtain ⟨D3, d3, e3, l3_, x3⟩ := hr3
   subst e2 e3
   clear x2 x3 l2_ l3_ hb K
   go_wp2_with fail
   refine bodyPost_ret (results_tmp3 rfl _ _ _) rfl ?_
   exact ⟨_, _, rfl, VL.nil _ _ _, VL.nil _ _ _, B2.out.alloc B2.out.size _⟩
set_option maxHeartbeats 8000000 in
theorem Bc8 (w0 : World) (A0 : Option Addr) (c0 : Nat) (l0 : List S132) (A1 : Option Addr) (c1 : Nat) (l1 : List Int) (A2 : Option Addr) (c2 : Nat) (l2 : List S214) (A3 : Option Addr) (c3 : Nat) (l3 : List S212) (A4 : Option Addr) (c4 : Nat) (l4 : List S292) (A5 : Option Addr) (c5 : Nat) (l5 : List Int) (A6 : Option Addr) (c6 : Nat) (l6 : List S39) (d7 : Int) (A8 : Option Addr) (c8 : Nat) (l8 : List Bool) (t : Int) (v : S39) (w : World) (hw0 : Below w0.heap.size w0 w) (hx : XIn w0 A0 c0 l0 A1 c1 l1 A2 c2 l2 A3 c3 l3 A4 c4 l4 A5 c5 l5 A6 c6 l6 d7 A8 c8 l8) (ht : NV64 t) :
  Calls Tryz.prog 12 #[.agg #[.slice A0 l0.length c0, .slice A1 l1.length c1, .slice A2 l2.length c2, .slice A3 l3.length c3, .slice A4 l4.length c4, .slice A5 l5.length c5, .slice A6 l6.length c6, .int .i64 d7, .slice A8 l8.length c8], .agg #[.int .i64 t, .int .i64 v.f0, .bool v.f1, .int .i64 v.f2]] w (FtL w0 (btV l0 t v) w) := by
 obtain ⟨W3, hW3⟩ : ∃ W3, W3 = ((w.alloc (.cells #[.slice A0 l0.length c0, .slice A1 l1.length c1, .slice A2 l2.length c2, .slice A3 l3.length c3, .slice A4 l4.length c4, .slice A5 l5.length c5, .slice A6 l6.length c6, .int .i64 d7, .slice A8 l8.length c8] 30)).alloc (.cells #[.int .i64 t, .int .i64 v.f0, .bool v.f1, .int .i64 v.f2] 41)) := ⟨_, rfl⟩
 have b3 : Below w.heap.size w W3 := by rw [hW3]; exact (bz_).alloc (by simp) _
 have B3 := zA b3
 have HX := zA ((hx.below hw0).below b3)
 have H0 := zA (And.intro hw0 hx)
 have HT := zA ht
 have hq0 : W3.heap[w.heap.size]? = some (.cells #[.slice A0 l0.length c0, .slice A1 l1.length c1, .slice A2 l2.length c2, .slice A3 l3.length c3, .slice A4 l4.length c4, .slice A5 l5.length c5, .slice A6 l6.length c6, .int .i64 d7, .slice A8 l8.length c8] 30 (0, 0)) := by rw [hW3]; exact Aa5 (Aa6 w _) _
 have hq1 : W3.heap[w.heap.size + 1]? = some (.cells #[.int .i64 t, .int .i64 v.f0, .bool v.f1, .int .i64 v.f2] 41 (0, 0)) := by rw [hW3]; have h_ := Aa6 (w.alloc (.cells #[.slice A0 l0.length c0, .slice A1 l1.length c1, .slice A2 l2.length c2, .slice A3 l3.length c3, .slice A4 l4.length c4, .slice A5 l5.length c5, .slice A6 l6.length c6, .int .i64 d7, .slice A8 l8.length c8] 30)) (.cells #[.int .i64 t, .int .i64 v.f0, .bool v.f1, .int .i64 v.f2] 41); rw [World.size_alloc] at h_; exact h_
 have HQ := zA (And.intro hq0 hq1)
 clear b3 hx hw0 ht hq0 hq1
 by_cases h0 : 0 ≤ t
 ·have EV : btV l0 t v = ftV l0 t := by unfold btV; rw [if_pos h0]
  rw [EV]
  clear EV
  have K := Bg8 w0 A0 c0 l0 A1 c1 l1 A2 c2 l2 A3 c3 l3 A4 c4 l4 A5 c5 l5 A6 c6 l6 d7 A8 c8 l8 t W3 (H0.out.1.trans (B3.out.mono H0.out.1.size)) H0.out.2 HT.out
  go_enter Tryz.func12, Tryz.ntmps12
  go_wp2_with fail
  rw [← hW3]
  clear hW3
  refine K.mono ?_
  rintro e w4 ⟨v1, v2, rfl, R1, R2, hb⟩
  have B4 := zA (B3.out.trans (hb.mono B3.out.size))
  have RR := zA (And.intro R1 R2)
  clear hb K R1 R2
  go_wp2_with fail
  refine bodyPost_ret (results_tmp3 rfl _ _ _) rfl ?_
  exact ⟨_, _, rfl, RR.out.1.down B3.out.size, RR.out.2.down B3.out.size, B4.out⟩
 have h0' : t < 0 := by omega
 by_cases z0 : v.f0 = 0
 ·have EV : btV l0 t v = ([], [], 0) := by unfold btV; rw [if_neg h0, if_pos z0]
  rw [EV]
  have ez : (v.f0 == 0) = true := by simp [z0]
  clear EV z0 h0
  go_enter Tryz.func12, Tryz.ntmps12
  go_wp2_with fail
  rw [← hW3]
  clear hW3
  refine bodyPost_ret (results_tmp3 rfl _ _ _) rfl ?_
  exact ⟨_, _, rfl, VL.nil _ _ _, VL.nil _ _ _, B3.out⟩
 have ez : (v.f0 == 0) = false := by simp [z0]
 obtain ⟨K14⟩ : Aa2 (Calls Tryz.prog 41 #[.agg #[.slice A0 l0.length c0, .slice A1 l1.length c1, .slice A2 l2.length c2, .slice A3 l3.length c3, .slice A4 l4.length c4, .slice A5 l5.length c5, .slice A6 l6.length c6, .int .i64 d7, .slice A8 l8.length c8], .agg #[.int .i64 v.f0, .bool v.f1, .int .i64 v.f2]] W3 fun e w' => e = .returned (.bool (!decide (v.f0 = 5 ∧ (v.f2 < -12 ∨ (Af1 l0 : Int) ≤ v.f2)))) ∧ Below W3.heap.size W3 w') := ⟨Bv4 v W3 HX.out.r0 HX.out.h0 HX.out.bulk⟩
 by_cases hk : v.f0 = 5 ∧ (v.f2 < -12 ∨ (Af1 l0 : Int) ≤ v.f2)
 ·have EV : btV l0 t v = ([], [], 150) := by unfold btV; rw [if_neg h0, if_neg z0, if_pos hk]
  have ek : decide (v.f0 = 5 ∧ (v.f2 < -12 ∨ (Af1 l0 : Int) ≤ v.f2)) = true := by simpa using hk
  rw [EV]
  rw [ek] at K14
  clear EV ek hk z0 h0
  go_enter Tryz.func12, Tryz.ntmps12
  go_wp2_with fail
  rw [← hW3]
  clear hW3
  refine K14.mono ?_
  rintro e w4 ⟨rfl, hb⟩
  have B4 := zA (B3.out.trans (hb.mono B3.out.size))
  clear hb K14
  go_wp2_with fail
  refine bodyPost_ret (results_tmp3 rfl _ _ _) rfl ?_
  exact ⟨_, _, rfl, VL.nil _ _ _, VL.nil _ _ _, B4.out⟩
 have EV : btV l0 t v = ([], [v], 0) := by unfold btV; rw [if_neg h0, if_neg z0, if_neg hk]
 have ek : decide (v.f0 = 5 ∧ (v.f2 < -12 ∨ (Af1 l0 : Int) ≤ v.f2)) = false := by simpa using hk
 rw [EV]
 rw [ek] at K14
 clear EV ek hk z0 h0
 go_enter Tryz.func12, Tryz.ntmps12
 go_wp2_with fail
 rw [← hW3]
 clear hW3
 refine K14.mono ?_
 rintro e w4 ⟨rfl, hb⟩
 have B4 := zA (B3.out.trans (hb.mono B3.out.size))
 have u1 : w4.cell? ⟨w.heap.size + 1, 1, none⟩ = some (.int .i64 v.f0) := (Aa0 (Aa3 HQ.out.2 hb) 1).trans rfl
 have u2 : w4.cell? ⟨w.heap.size + 1, 2, none⟩ = some (.bool v.f1) := (Aa0 (Aa3 HQ.out.2 hb) 2).trans rfl
 have u3 : w4.cell? ⟨w.heap.size + 1, 3, none⟩ = some (.int .i64 v.f2) := (Aa0 (Aa3 HQ.out.2 hb) 3).trans rfl
 clear hb K14
 go_wp2_with fail
 refine Ab3 (n := 6) (S := fun w' => w'.cell? ⟨w.heap.size + 1, 1, none⟩ = some (.int .i64 v.f0) ∧ w'.cell? ⟨w.heap.size + 1, 2, none⟩ = some (.bool v.f1) ∧ w'.cell? ⟨w.heap.size + 1, 3, none⟩ = some (.int .i64 v.f2)) (ds := []) (bm_ 6 0) (by kernel_rfl) rfl rfl ⟨u1, u2, u3⟩ (fun hHeld => ?_)
 have BD : Aa2 (Below w.heap.size w w4.drew) := ⟨B4.out.drew⟩
 replace u1 : w4.drew.cell? _ = _ := u1
 replace u2 : w4.drew.cell? _ = _ := u2
 replace u3 : w4.drew.cell? _ = _ := u3
 generalize w4.drew = w5 at BD u1 u2 u3 hHeld ⊢
 refine pz_ 0 26 6 1 ?_
 refine pz_ 3 4 6 9 ?_
 refine tz_ 1 27 6 11 hHeld ?_
 refine oz_ 2 28 6 15 fun K hK => ?_
 refine vz_ ?_
 refine hK.out _ _ ⟨((bz_).cell (World.block_lt_of_cell? w5 _ u1)).trans u1, ((bz_).cell (World.block_lt_of_cell? w5 _ u2)).trans u2, ((bz_).cell (World.block_lt_of_cell? w5 _ u3)).trans u3⟩ (fun hHeld => ?_)
 clear hK K
 refine nz_ ?_
 refine pz_ 4 5 6 31 ?_
 refine pz_ 5 6 6 63 ?_
 refine dz_ ?_
 go_wp2_with fail
 refine bodyPost_ret (results_tmp3 rfl _ _ _) rfl ?_
 exact ⟨_, _, rfl, VL.nil _ _ _, VL.one v _ BD.out.size, BD.out.alloc BD.out.size _⟩
theorem Bv2 (X : CX) {w : World} (hx : XIn w X.A0 X.c0 X.l0 X.A1 X.c1 X.l1 X.A2 X.c2 X.l2 X.A3 X.c3 X.l3 X.A4 X.c4 X.l4 X.A5 X.c5 X.l5 X.A6 X.c6 X.l6 X.d7 X.A8 X.c8 X.l8) (hl : LIn X.l0) (hw : wL X.l0 + X.l0.length ≤ 1048576) : Calls Tryz.prog 8 #[.agg #[.slice X.A0 X.l0.length X.c0, .slice X.A1 X.l1.length X.c1, .slice X.A2 X.l2.length X.c2, .slice X.A3 X.l3.length X.c3, .slice X.A4 X.l4.length X.c4, .slice X.A5 X.l5.length X.c5, .slice X.A6 X.l6.length X.c6, .int .i64 X.d7, .slice X.A8 X.l8.length X.c8]] w fun e w' => (∃ b, e = .returned (.bool b) ∧ (b = false ↔ Clo X.l0)) ∧ Below w.heap.size w w' := by
 have b1 : Below w.heap.size w (w.alloc (.cells #[.slice X.A0 X.l0.length X.c0, .slice X.A1 X.l1.length X.c1, .slice X.A2 X.l2.length X.c2, .slice X.A3 X.l3.length X.c3, .slice X.A4 X.l4.length X.c4, .slice X.A5 X.l5.length X.c5, .slice X.A6 X.l6.length X.c6, .int .i64 X.d7, .slice X.A8 X.l8.length X.c8] 30)) := bz_
 have K := At0 X.A0 X.c0 X.l0 _ ⟨Kd.Ab1 hx.r0 b1, hx.h0, hl, hw⟩
 have B1 := zA b1
 clear hx hl hw b1
 go_enter Tryz.func8, Tryz.ntmps8
 go_wp2_with fail
 refine K.mono ?_
 rintro e w2 ⟨⟨n, er, rfl, ho⟩, hb⟩
 have B2 := zA (B1.out.trans (hb.mono B1.out.size))
 have HO := zA ho
 clear K hb ho
 go_wp2_with fail
 go_ret
 refine ⟨⟨_, rfl, fun h => ?_, fun h => ?_⟩, B2.out⟩
 ·by_cases hc : Clo X.l0
  ·exact hc
  ·have := HO.out.no hc
   rw [this] at h
   exact absurd h (by decide)
 ·rw [(HO.out.yes h).2]
  rfl
section
variable {w : World} {l0 : List S132} {AP : Option Addr} {cP : Nat} {ps : List S39} {AL : Option Addr} {cL : Nat} {ls : List S39} {AR : Option Addr} {cR : Nat} {rs : List S39} {AD : Option Addr} {cD : Nat} {dp : List (List S39)} {AS : Option Addr} {cS : Nat} {st : List S39} {dead : Bool}
theorem frs0_mem {rs : List S39} {sets : List Bool} {dp : List (List S39)} (hr : rs.length ≤ 1048576) (ht : ∀ t ∈ dp, t.length ≤ 1048576) : ∀ x ∈ frs0 rs sets dp, x.ins.length ≤ 1048576 ∧ x.outs.length ≤ 1048576 := by
 intro x hx
 unfold frs0 at hx
 rcases List.mem_cons.1 hx with h | h
 ·rw [h]
  exact ⟨Nat.zero_le _, hr⟩
 ·obtain ⟨t, h1, rfl⟩ := List.mem_map.1 h
  exact ⟨Nat.zero_le _, ht t h1⟩
theorem begK_fit (hg : GOk l0) (hw : Bs1 w AP cP ps AL cL ls AR cR rs AD cD dp AS cS st) (dead : Bool) : ∃ f, Fit (begK l0 ps ls rs dp st dead) f ∧ f.height = 0 ∧ f.dead = dead := by
 obtain ⟨f, hf, h0, hd⟩ := Be7 rs (Ae2 ps.length (ps ++ ls)) dp
 have hm := frs0_mem (sets := Ae2 ps.length (ps ++ ls)) hw.br hw.bt
 have hln : (frs0 rs (Ae2 ps.length (ps ++ ls)) dp).length ≤ 1048577 := by rw [Ak1]; have := hw.bd; omega
 have hbs := hw.bs
 cases dead with
 | false => exact ⟨f, ⟨hg, hf, by rw [h0]; exact Nat.zero_le _, by dsimp only [begK]; omega, by dsimp only [begK]; rw [if_neg (by simp)]; omega, hm, hw.br⟩, h0, hd⟩
 | true =>
  refine ⟨{ f with dead := true }, ⟨hg, ?_, by dsimp only; rw [h0]; exact Nat.zero_le _, by dsimp only [begK]; omega, ?_, ?_, hw.br⟩, h0, rfl⟩
  ·dsimp only [begK]
   rw [if_pos rfl, Ba7 hf]
   exact set_last _ _ (by rw [Ak1]; omega)
  ·dsimp only [begK]
   rw [if_pos rfl, Ba7 hf, List.length_set]
   omega
  ·intro x hx
   dsimp only [begK] at hx
   rw [if_pos rfl, Ba7 hf] at hx
   rcases List.mem_or_eq_of_mem_set hx with h | h
   ·exact hm x h
   ·rw [h]
    exact hm f (List.mem_of_getElem? hf)
end
structure LI (w : World) (X : CX) (I : IX) (AP : Option Addr) (cP : Nat) (ps : List S39) (AL : Option Addr) (cL : Nat) (ls : List S39) (AR : Option Addr) (cR : Nat) (rs : List S39) (AD : Option Addr) (cD : Nat) (dp : List (List S39)) (AS : Option Addr) (cS : Nat) (st : List S39) : Prop where
 x : XIn w X.A0 X.c0 X.l0 X.A1 X.c1 X.l1 X.A2 X.c2 X.l2 X.A3 X.c3 X.l3 X.A4 X.c4 X.l4 X.A5 X.c5 X.l5 X.A6 X.c6 X.l6 X.d7 X.A8 X.c8 X.l8
 wr : Bs1 w AP cP ps AL cL ls AR cR rs AD cD dp AS cS st
 lin : LIn X.l0
 bw : wL X.l0 + X.l0.length ≤ 1048576
 rts : RTs X.l0
 f64 : ∀ n ∈ X.l1, NV64 n
 t64 : ∀ n ∈ X.l5, NV64 n
 lab : Kd.C (Kd.int .u32) w I.AL I.ls.length I.ls
 hl : I.ls.length ≤ I.cL
 lb : I.ls.length ≤ 1048576
 l32 : ∀ n ∈ I.ls, 0 ≤ n ∧ n ≤ 4294967295
 x32 : I.x ≤ 4294967295
 y32 : I.y ≤ 4294967295
 op : NV64 I.op
 tab : Lib.TabBelow Tryz.prog w.heap.size w "internal/strconv.uint64pow10" .u64 Lib.pow10Tab
section
variable {w w' : World} {X : CX} {I : IX} {AP : Option Addr} {cP : Nat} {ps : List S39} {AL : Option Addr} {cL : Nat} {ls : List S39} {AR : Option Addr} {cR : Nat} {rs : List S39} {AD : Option Addr} {cD : Nat} {dp : List (List S39)} {AS : Option Addr} {cS : Nat} {st : List S39} {dead : Bool}
theorem LI.xk (h : LI w X I AP cP ps AL cL ls AR cR rs AD cD dp AS cS st) : XK w X I := ⟨h.x, h.lab, h.hl, h.lb, h.l32, h.f64, h.t64, h.x32, h.y32⟩
theorem LI.gok (h : LI w X I AP cP ps AL cL ls AR cR rs AD cD dp AS cS st) (hc : Clo X.l0) : GOk X.l0 := ⟨hc, h.lin, h.bw⟩
end
end Go.Proofs.YtohlmkcgempdlaaGreatDoor.Cn
namespace Go.Proofs.YtohlmkcgempdlaaGreatDoor.Cx
set_option linter.unusedSimpArgs false
set_option maxRecDepth 100000
set_option linter.unusedVariables false
open Go.RowKit Go.Maps Go.Proofs.YtohlmkcgempdlaaGreatDoorW.PrintWords Go.Proofs.YtohlmkcgempdlaaGreatDoorW.PrintLast Go.Proofs.YtohlmkcgempdlaaGreatDoor.QD Go.Proofs.YtohlmkcgempdlaaGreatDoor.Opb Go.Proofs.YtohlmkcgempdlaaGreatDoor.Cn
theorem li_mk {W : World} {x : (List S132 × List Int × List S214 × List S212 × List S292 × List Int × List S39 × Int × List Bool) × List S39 × List S39 × List S39 × List (List S39) × List S39 × Bool} {y : Int × Int × Int × Int × (Int × Int × Int) × (Int × S39) × List Value × List Value × Bool × List Int × List Value × List Value} {X : CX} {I : IX} {AP : Option Addr} {cP : Nat} {ps : List S39} {AL : Option Addr} {cL : Nat} {ls : List S39} {AR : Option Addr} {cR : Nat} {rs : List S39} {AD : Option Addr} {cD : Nat} {dp : List (List S39)} {AS : Option Addr} {cS : Nat} {st : List S39}
  (b0 : LIn x.1.1 ∧ (∀ n ∈ x.1.2.1, NV64 n) ∧ ∀ n ∈ x.1.2.2.2.2.2.1, NV64 n) (e0 : x.1.1 = X.l0) (e1 : x.1.2.1 = X.l1) (e5 : x.1.2.2.2.2.2.1 = X.l5) (hx : XIn W X.A0 X.c0 X.l0 X.A1 X.c1 X.l1 X.A2 X.c2 X.l2 X.A3 X.c3 X.l3 X.A4 X.c4 X.l4 X.A5 X.c5 X.l5 X.A6 X.c6 X.l6 X.d7 X.A8 X.c8 X.l8) (hw : Bs1 W AP cP ps AL cL ls AR cR rs AD cD dp AS cS st) (hb : wLL x.1.1 ≤ 1048576)
  (b1 : (0 ≤ y.2.1 ∧ y.2.1 ≤ 4294967295) ∧ (0 ≤ y.2.2.1 ∧ y.2.2.1 ≤ 4294967295) ∧ (∀ n ∈ y.2.2.2.2.2.2.2.2.2.1, 0 ≤ n ∧ n ≤ 4294967295) ∧ NV64 y.1) (i0 : I.op = y.1) (ix : I.x ≤ 4294967295) (iy : I.y ≤ 4294967295) (il : I.ls = y.2.2.2.2.2.2.2.2.2.1) (hC : Kd.C (Kd.int .u32) W I.AL I.ls.length I.ls) (hl : I.ls.length ≤ I.cL) (hlb : y.2.2.2.2.2.2.2.2.2.1.length ≤ 1048576)
  (tab : Lib.TabBelow Tryz.prog W.heap.size W "internal/strconv.uint64pow10" .u64 Lib.pow10Tab) : LI W X I AP cP ps AL cL ls AR cR rs AD cD dp AS cS st := by
 rw [e0] at b0 hb
 rw [e1, e5] at b0
 exact ⟨hx, hw, b0.1, by rw [← wLL_eq]; exact hb, rts_of hb, b0.2.1, b0.2.2, hC, hl, by rw [il]; exact hlb, by rw [il]; exact b1.2.2.1, ix, iy, by rw [i0]; exact b1.2.2.2, tab⟩
end Go.Proofs.YtohlmkcgempdlaaGreatDoor.Cx
namespace Go.Proofs.YtohlmkcgempdlaaGreatDoor.Cn
set_option linter.unusedSimpArgs false
set_option maxRecDepth 100000
set_option linter.unusedVariables false
open Go.RowKit Go.Maps Go.Proofs.YtohlmkcgempdlaaGreatDoorW.PrintWords Go.Proofs.YtohlmkcgempdlaaGreatDoorW.PrintLast Go.Proofs.YtohlmkcgempdlaaGreatDoorW.PrintMore Go.Proofs.YtohlmkcgempdlaaGreatDoor.QD
theorem sameL_l0 (xs : List S39) (hx : xs.length ≤ 16777216) : ∀ (m j : Nat), j + m = xs.length → ratchetlaw15_same.l0 (m + 1) xs xs (j : Int) = some true := by
 intro m
 induction m with
 | zero =>
  intro j hj
  rw [ratchetlaw15_same.l0, if_neg (by omega)]
 | succ m ih =>
  intro j hj
  have e2 : wrap64 ((j : Int) + 1) = ((j + 1 : Nat) : Int) := by unfold wrap64; omega
  rw [ratchetlaw15_same.l0, if_pos (by omega), if_pos (by omega), if_pos (by omega), if_neg (by simp), e2]
  exact ih (j + 1) (by omega)
theorem sameL (xs : List S39) (hx : xs.length ≤ 16777216) : ratchetlaw15_same.f (xs.length + 1) xs xs = some true := by
 unfold ratchetlaw15_same.f
 rw [if_pos rfl]
 exact sameL_l0 xs hx xs.length 0 (by omega)
theorem Bv1 {S1 S2 : Nat → Prop} {w : World} {A1 A2 : Option Addr} {n1 n2 c1 c2 : Nat} {xs : List S39} (hl : xs.length ≤ 16777216) (h1 : LK k39 S1 w (.slice A1 n1 c1) xs) (h2 : LK k39 S2 w (.slice A2 n2 c2) xs) :
  Calls Tryz.prog 16 #[.slice A1 n1 c1, .slice A2 n2 c2] w fun e w' => e = .returned (.bool true) ∧ Below w.heap.size w w' := by
 obtain ⟨e1, l1, r1⟩ := h1.reads
 obtain ⟨e2, l2, r2⟩ := h2.reads
 subst e1
 subst e2
 exact (ratchetlaw15_same.calls _ A1 c1 xs A2 c2 xs true w r1 l1 r2 l2 (sameL xs hl)).mono (by rintro e w' ⟨rfl, m, rfl⟩; exact ⟨rfl, below_drewN (Below.refl _ _) m⟩)
theorem Cg7 (k : Chk) (o' ins : List S39) (f : Fr) (h : f.height = o'.length) : unrM { k with ops := o' ++ ins, frames := k.frames ++ [f] } f = { k with ops := o', frames := k.frames ++ [{ f with dead := true }] } := by
 unfold unrM
 dsimp only
 rw [h, List.take_left, List.length_append, List.length_singleton, Nat.add_sub_cancel, List.set_append_right _ _ (Nat.le_refl _), Nat.sub_self]
 rfl
theorem Bp9 (fs : List Fr) (f : Fr) : (fs ++ [f])[(fs ++ [f]).length - 1]? = some f := by simp
theorem Bp8 (k : Chk) (o1 o' : List S39) (f f2 : Fr) : (Ao0 { k with ops := o1, frames := k.frames ++ [f] } f2 o').frames = k.frames := by
 unfold Ao0
 dsimp only
 rw [List.length_append, List.length_singleton, Nat.add_sub_cancel, List.take_left]
theorem begK_sml (l0 : List S132) {ps ls rs : List S39} {dp : List (List S39)} {st : List S39} (dead : Bool) (bp : ps.length ≤ 1048576) (bl : ls.length ≤ 1048576) {f : Fr} (hF : Fit (begK l0 ps ls rs dp st dead) f) : Sml (begK l0 ps ls rs dp st dead) ∧ (begK l0 ps ls rs dp st dead).sets.length ≤ 2097152 := by
 have hs : (begK l0 ps ls rs dp st dead).sets.length = ps.length + ls.length := by
  show (Ae2 ps.length (ps ++ ls)).length = _
  rw [Ad7, List.length_append]
 have hl : (begK l0 ps ls rs dp st dead).locals.length = ps.length + ls.length := List.length_append
 have h1 := hF.res
 have h2 := hF.ops
 have h3 := hF.frs
 exact ⟨⟨by omega, by omega, by omega, by omega, by omega⟩, by omega⟩
section
variable {w w' : World} {X : CX} {I : IX} {AP : Option Addr} {cP : Nat} {ps : List S39} {AL : Option Addr} {cL : Nat} {ls : List S39} {AR : Option Addr} {cR : Nat} {rs : List S39} {AD : Option Addr} {cD : Nat} {dp : List (List S39)} {AS : Option Addr} {cS : Nat} {st : List S39} {t : Int} {v : S39} {AC : Option Addr} {nC cC : Nat}
set_option maxHeartbeats 16000000 in
theorem Bb5 (h : LI w X I AP cP ps AL cL ls AR cR rs AD cD dp AS cS st) (hib : IB I t v) (hca : CaR w I AC nC cC) (dead : Bool) : Calls Tryz.prog 3 #[.agg #[.slice X.A0 X.l0.length X.c0, .slice X.A1 X.l1.length X.c1, .slice X.A2 X.l2.length X.c2, .slice X.A3 X.l3.length X.c3, .slice X.A4 X.l4.length X.c4, .slice X.A5 X.l5.length X.c5, .slice X.A6 X.l6.length X.c6, .int .i64 X.d7, .slice X.A8 X.l8.length X.c8, .slice AP ps.length cP, .slice AL ls.length cL, .slice AR rs.length cR, .slice AD dp.length cD, .slice AS st.length cS, .bool dead], .agg #[.int .i64 I.op, .int .u32 I.x, .int .u32 I.y, I.v3, I.v4, I.v5, I.v6, I.v7, I.v8, I.v9, I.v10, I.v11, I.v12, I.v13, .slice I.AL I.ls.length I.cL, I.v15, I.v16]] w fun e w' => e = .returned (.bool true) ∧ Below w.heap.size w w' := by
 obtain ⟨W, hW⟩ : ∃ W, W = (w.alloc (.cells #[.slice X.A0 X.l0.length X.c0, .slice X.A1 X.l1.length X.c1, .slice X.A2 X.l2.length X.c2, .slice X.A3 X.l3.length X.c3, .slice X.A4 X.l4.length X.c4, .slice X.A5 X.l5.length X.c5, .slice X.A6 X.l6.length X.c6, .int .i64 X.d7, .slice X.A8 X.l8.length X.c8, .slice AP ps.length cP, .slice AL ls.length cL, .slice AR rs.length cR, .slice AD dp.length cD, .slice AS st.length cS, .bool dead] 33)).alloc (.cells #[.int .i64 I.op, .int .u32 I.x, .int .u32 I.y, I.v3, I.v4, I.v5, I.v6, I.v7, I.v8, I.v9, I.v10, I.v11, I.v12, I.v13, .slice I.AL I.ls.length I.cL, I.v15, I.v16] 46) := ⟨_, rfl⟩
 have b1 : Below w.heap.size w W := by rw [hW]; exact (bz_).alloc (by simp) _
 have hq0 : W.heap[w.heap.size]? = some (.cells #[.slice X.A0 X.l0.length X.c0, .slice X.A1 X.l1.length X.c1, .slice X.A2 X.l2.length X.c2, .slice X.A3 X.l3.length X.c3, .slice X.A4 X.l4.length X.c4, .slice X.A5 X.l5.length X.c5, .slice X.A6 X.l6.length X.c6, .int .i64 X.d7, .slice X.A8 X.l8.length X.c8, .slice AP ps.length cP, .slice AL ls.length cL, .slice AR rs.length cR, .slice AD dp.length cD, .slice AS st.length cS, .bool dead] 33 (0, 0)) := by rw [hW]; exact Aa5 (Aa6 w _) _
 have hq1 : W.heap[w.heap.size + 1]? = some (.cells #[.int .i64 I.op, .int .u32 I.x, .int .u32 I.y, I.v3, I.v4, I.v5, I.v6, I.v7, I.v8, I.v9, I.v10, I.v11, I.v12, I.v13, .slice I.AL I.ls.length I.cL, I.v15, I.v16] 46 (0, 0)) := by rw [hW]; have h_ := Aa6 (w.alloc (.cells #[.slice X.A0 X.l0.length X.c0, .slice X.A1 X.l1.length X.c1, .slice X.A2 X.l2.length X.c2, .slice X.A3 X.l3.length X.c3, .slice X.A4 X.l4.length X.c4, .slice X.A5 X.l5.length X.c5, .slice X.A6 X.l6.length X.c6, .int .i64 X.d7, .slice X.A8 X.l8.length X.c8, .slice AP ps.length cP, .slice AL ls.length cL, .slice AR rs.length cR, .slice AD dp.length cD, .slice AS st.length cS, .bool dead] 33)) (.cells #[.int .i64 I.op, .int .u32 I.x, .int .u32 I.y, I.v3, I.v4, I.v5, I.v6, I.v7, I.v8, I.v9, I.v10, I.v11, I.v12, I.v13, .slice I.AL I.ls.length I.cL, I.v15, I.v16] 46); rw [World.size_alloc] at h_; exact h_
 have HQ := zA (And.intro hq0 hq1)
 have H := zA h
 have HIB := zA hib
 have HCA := zA hca
 have B1 := zA b1
 have KO := Bv2 X (h.x.below b1) h.lin h.bw
 have x0 : ((w.alloc (.cells #[.slice X.A0 X.l0.length X.c0, .slice X.A1 X.l1.length X.c1, .slice X.A2 X.l2.length X.c2, .slice X.A3 X.l3.length X.c3, .slice X.A4 X.l4.length X.c4, .slice X.A5 X.l5.length X.c5, .slice X.A6 X.l6.length X.c6, .int .i64 X.d7, .slice X.A8 X.l8.length X.c8, .slice AP ps.length cP, .slice AL ls.length cL, .slice AR rs.length cR, .slice AD dp.length cD, .slice AS st.length cS, .bool dead] 33)).alloc (.cells #[.int .i64 I.op, .int .u32 I.x, .int .u32 I.y, I.v3, I.v4, I.v5, I.v6, I.v7, I.v8, I.v9, I.v10, I.v11, I.v12, I.v13, .slice I.AL I.ls.length I.cL, I.v15, I.v16] 46)).cell? ⟨w.heap.size, 0, none⟩ = some (.slice X.A0 X.l0.length X.c0) := by rw [← hW]; exact (Aa0 hq0 0).trans rfl
 have x1 : ((w.alloc (.cells #[.slice X.A0 X.l0.length X.c0, .slice X.A1 X.l1.length X.c1, .slice X.A2 X.l2.length X.c2, .slice X.A3 X.l3.length X.c3, .slice X.A4 X.l4.length X.c4, .slice X.A5 X.l5.length X.c5, .slice X.A6 X.l6.length X.c6, .int .i64 X.d7, .slice X.A8 X.l8.length X.c8, .slice AP ps.length cP, .slice AL ls.length cL, .slice AR rs.length cR, .slice AD dp.length cD, .slice AS st.length cS, .bool dead] 33)).alloc (.cells #[.int .i64 I.op, .int .u32 I.x, .int .u32 I.y, I.v3, I.v4, I.v5, I.v6, I.v7, I.v8, I.v9, I.v10, I.v11, I.v12, I.v13, .slice I.AL I.ls.length I.cL, I.v15, I.v16] 46)).cell? ⟨w.heap.size, 1, none⟩ = some (.slice X.A1 X.l1.length X.c1) := by rw [← hW]; exact (Aa0 hq0 1).trans rfl
 have x2 : ((w.alloc (.cells #[.slice X.A0 X.l0.length X.c0, .slice X.A1 X.l1.length X.c1, .slice X.A2 X.l2.length X.c2, .slice X.A3 X.l3.length X.c3, .slice X.A4 X.l4.length X.c4, .slice X.A5 X.l5.length X.c5, .slice X.A6 X.l6.length X.c6, .int .i64 X.d7, .slice X.A8 X.l8.length X.c8, .slice AP ps.length cP, .slice AL ls.length cL, .slice AR rs.length cR, .slice AD dp.length cD, .slice AS st.length cS, .bool dead] 33)).alloc (.cells #[.int .i64 I.op, .int .u32 I.x, .int .u32 I.y, I.v3, I.v4, I.v5, I.v6, I.v7, I.v8, I.v9, I.v10, I.v11, I.v12, I.v13, .slice I.AL I.ls.length I.cL, I.v15, I.v16] 46)).cell? ⟨w.heap.size, 2, none⟩ = some (.slice X.A2 X.l2.length X.c2) := by rw [← hW]; exact (Aa0 hq0 2).trans rfl
 have x3 : ((w.alloc (.cells #[.slice X.A0 X.l0.length X.c0, .slice X.A1 X.l1.length X.c1, .slice X.A2 X.l2.length X.c2, .slice X.A3 X.l3.length X.c3, .slice X.A4 X.l4.length X.c4, .slice X.A5 X.l5.length X.c5, .slice X.A6 X.l6.length X.c6, .int .i64 X.d7, .slice X.A8 X.l8.length X.c8, .slice AP ps.length cP, .slice AL ls.length cL, .slice AR rs.length cR, .slice AD dp.length cD, .slice AS st.length cS, .bool dead] 33)).alloc (.cells #[.int .i64 I.op, .int .u32 I.x, .int .u32 I.y, I.v3, I.v4, I.v5, I.v6, I.v7, I.v8, I.v9, I.v10, I.v11, I.v12, I.v13, .slice I.AL I.ls.length I.cL, I.v15, I.v16] 46)).cell? ⟨w.heap.size, 3, none⟩ = some (.slice X.A3 X.l3.length X.c3) := by rw [← hW]; exact (Aa0 hq0 3).trans rfl
 have x4 : ((w.alloc (.cells #[.slice X.A0 X.l0.length X.c0, .slice X.A1 X.l1.length X.c1, .slice X.A2 X.l2.length X.c2, .slice X.A3 X.l3.length X.c3, .slice X.A4 X.l4.length X.c4, .slice X.A5 X.l5.length X.c5, .slice X.A6 X.l6.length X.c6, .int .i64 X.d7, .slice X.A8 X.l8.length X.c8, .slice AP ps.length cP, .slice AL ls.length cL, .slice AR rs.length cR, .slice AD dp.length cD, .slice AS st.length cS, .bool dead] 33)).alloc (.cells #[.int .i64 I.op, .int .u32 I.x, .int .u32 I.y, I.v3, I.v4, I.v5, I.v6, I.v7, I.v8, I.v9, I.v10, I.v11, I.v12, I.v13, .slice I.AL I.ls.length I.cL, I.v15, I.v16] 46)).cell? ⟨w.heap.size, 4, none⟩ = some (.slice X.A4 X.l4.length X.c4) := by rw [← hW]; exact (Aa0 hq0 4).trans rfl
 have x5 : ((w.alloc (.cells #[.slice X.A0 X.l0.length X.c0, .slice X.A1 X.l1.length X.c1, .slice X.A2 X.l2.length X.c2, .slice X.A3 X.l3.length X.c3, .slice X.A4 X.l4.length X.c4, .slice X.A5 X.l5.length X.c5, .slice X.A6 X.l6.length X.c6, .int .i64 X.d7, .slice X.A8 X.l8.length X.c8, .slice AP ps.length cP, .slice AL ls.length cL, .slice AR rs.length cR, .slice AD dp.length cD, .slice AS st.length cS, .bool dead] 33)).alloc (.cells #[.int .i64 I.op, .int .u32 I.x, .int .u32 I.y, I.v3, I.v4, I.v5, I.v6, I.v7, I.v8, I.v9, I.v10, I.v11, I.v12, I.v13, .slice I.AL I.ls.length I.cL, I.v15, I.v16] 46)).cell? ⟨w.heap.size, 5, none⟩ = some (.slice X.A5 X.l5.length X.c5) := by rw [← hW]; exact (Aa0 hq0 5).trans rfl
 have x6 : ((w.alloc (.cells #[.slice X.A0 X.l0.length X.c0, .slice X.A1 X.l1.length X.c1, .slice X.A2 X.l2.length X.c2, .slice X.A3 X.l3.length X.c3, .slice X.A4 X.l4.length X.c4, .slice X.A5 X.l5.length X.c5, .slice X.A6 X.l6.length X.c6, .int .i64 X.d7, .slice X.A8 X.l8.length X.c8, .slice AP ps.length cP, .slice AL ls.length cL, .slice AR rs.length cR, .slice AD dp.length cD, .slice AS st.length cS, .bool dead] 33)).alloc (.cells #[.int .i64 I.op, .int .u32 I.x, .int .u32 I.y, I.v3, I.v4, I.v5, I.v6, I.v7, I.v8, I.v9, I.v10, I.v11, I.v12, I.v13, .slice I.AL I.ls.length I.cL, I.v15, I.v16] 46)).cell? ⟨w.heap.size, 6, none⟩ = some (.slice X.A6 X.l6.length X.c6) := by rw [← hW]; exact (Aa0 hq0 6).trans rfl
 have x7 : ((w.alloc (.cells #[.slice X.A0 X.l0.length X.c0, .slice X.A1 X.l1.length X.c1, .slice X.A2 X.l2.length X.c2, .slice X.A3 X.l3.length X.c3, .slice X.A4 X.l4.length X.c4, .slice X.A5 X.l5.length X.c5, .slice X.A6 X.l6.length X.c6, .int .i64 X.d7, .slice X.A8 X.l8.length X.c8, .slice AP ps.length cP, .slice AL ls.length cL, .slice AR rs.length cR, .slice AD dp.length cD, .slice AS st.length cS, .bool dead] 33)).alloc (.cells #[.int .i64 I.op, .int .u32 I.x, .int .u32 I.y, I.v3, I.v4, I.v5, I.v6, I.v7, I.v8, I.v9, I.v10, I.v11, I.v12, I.v13, .slice I.AL I.ls.length I.cL, I.v15, I.v16] 46)).cell? ⟨w.heap.size, 7, none⟩ = some (.int .i64 X.d7) := by rw [← hW]; exact (Aa0 hq0 7).trans rfl
 have x8 : ((w.alloc (.cells #[.slice X.A0 X.l0.length X.c0, .slice X.A1 X.l1.length X.c1, .slice X.A2 X.l2.length X.c2, .slice X.A3 X.l3.length X.c3, .slice X.A4 X.l4.length X.c4, .slice X.A5 X.l5.length X.c5, .slice X.A6 X.l6.length X.c6, .int .i64 X.d7, .slice X.A8 X.l8.length X.c8, .slice AP ps.length cP, .slice AL ls.length cL, .slice AR rs.length cR, .slice AD dp.length cD, .slice AS st.length cS, .bool dead] 33)).alloc (.cells #[.int .i64 I.op, .int .u32 I.x, .int .u32 I.y, I.v3, I.v4, I.v5, I.v6, I.v7, I.v8, I.v9, I.v10, I.v11, I.v12, I.v13, .slice I.AL I.ls.length I.cL, I.v15, I.v16] 46)).cell? ⟨w.heap.size, 8, none⟩ = some (.slice X.A8 X.l8.length X.c8) := by rw [← hW]; exact (Aa0 hq0 8).trans rfl
 clear h b1 hq0 hq1 hib hca
 go_enter Tryz.func3, Tryz.ntmps3
 go_wp2_with fail
 rw [← hW]
 clear hW x0 x1 x2 x3 x4 x5 x6 x7 x8
 refine KO.mono ?_
 rintro e w2 ⟨⟨b, rfl, hbc⟩, hb⟩
 have B2 := zA (B1.out.trans (hb.mono B1.out.size))
 have HQ2 := zA (And.intro (Aa3 HQ.out.1 hb) (Aa3 HQ.out.2 hb))
 have HBC := zA hbc
 clear KO hb hbc HQ
 cases b with
 | true =>
  have KA := Al8 w2
  go_wp2_with fail
  refine KA.mono ?_
  rintro e w3 ⟨rfl, hb⟩
  have B3 := zA (B2.out.trans (hb.mono B2.out.size))
  clear KA hb
  go_wp2_with fail
  go_ret
  exact ⟨rfl, B3.out⟩
 | false =>
  have HG := zA (H.out.gok (HBC.out.1 rfl))
  have KB := Bw7 X.A0 X.c0 X.l0 X.A1 X.c1 X.l1 X.A2 X.c2 X.l2 X.A3 X.c3 X.l3 X.A4 X.c4 X.l4 X.A5 X.c5 X.l5 X.A6 X.c6 X.l6 X.d7 X.A8 X.c8 X.l8 AP cP ps AL cL ls AR cR rs AD cD dp AS cS st dead w2 (H.out.x.below B2.out) (H.out.wr.below B2.out) HG.out H.out.rts (fun w' hb => H.out.tab w' (B2.out.trans (hb.mono B2.out.size)))
  have x0 : w2.cell? ⟨w.heap.size, 0, none⟩ = some (.slice X.A0 X.l0.length X.c0) := (Aa0 HQ2.out.1 0).trans rfl
  have x1 : w2.cell? ⟨w.heap.size, 1, none⟩ = some (.slice X.A1 X.l1.length X.c1) := (Aa0 HQ2.out.1 1).trans rfl
  have x2 : w2.cell? ⟨w.heap.size, 2, none⟩ = some (.slice X.A2 X.l2.length X.c2) := (Aa0 HQ2.out.1 2).trans rfl
  have x3 : w2.cell? ⟨w.heap.size, 3, none⟩ = some (.slice X.A3 X.l3.length X.c3) := (Aa0 HQ2.out.1 3).trans rfl
  have x4 : w2.cell? ⟨w.heap.size, 4, none⟩ = some (.slice X.A4 X.l4.length X.c4) := (Aa0 HQ2.out.1 4).trans rfl
  have x5 : w2.cell? ⟨w.heap.size, 5, none⟩ = some (.slice X.A5 X.l5.length X.c5) := (Aa0 HQ2.out.1 5).trans rfl
  have x6 : w2.cell? ⟨w.heap.size, 6, none⟩ = some (.slice X.A6 X.l6.length X.c6) := (Aa0 HQ2.out.1 6).trans rfl
  have x7 : w2.cell? ⟨w.heap.size, 7, none⟩ = some (.int .i64 X.d7) := (Aa0 HQ2.out.1 7).trans rfl
  have x8 : w2.cell? ⟨w.heap.size, 8, none⟩ = some (.slice X.A8 X.l8.length X.c8) := (Aa0 HQ2.out.1 8).trans rfl
  have x9 : w2.cell? ⟨w.heap.size, 9, none⟩ = some (.slice AP ps.length cP) := (Aa0 HQ2.out.1 9).trans rfl
  have x10 : w2.cell? ⟨w.heap.size, 10, none⟩ = some (.slice AL ls.length cL) := (Aa0 HQ2.out.1 10).trans rfl
  have x11 : w2.cell? ⟨w.heap.size, 11, none⟩ = some (.slice AR rs.length cR) := (Aa0 HQ2.out.1 11).trans rfl
  have x12 : w2.cell? ⟨w.heap.size, 12, none⟩ = some (.slice AD dp.length cD) := (Aa0 HQ2.out.1 12).trans rfl
  have x13 : w2.cell? ⟨w.heap.size, 13, none⟩ = some (.slice AS st.length cS) := (Aa0 HQ2.out.1 13).trans rfl
  have x14 : w2.cell? ⟨w.heap.size, 14, none⟩ = some (.bool dead) := (Aa0 HQ2.out.1 14).trans rfl
  go_wp2_with fail
  refine KB.mono ?_
  rintro e w3 ⟨g, d, S, rfl, ht⟩
  obtain ⟨k, hk⟩ : ∃ k, k = begK X.l0 ps ls rs dp st dead := ⟨_, rfl⟩
  rw [← hk] at ht
  have HKE := zA hk
  have T3 := zA ht
  have TD := zA (ht.down B2.out)
  have HQ3 := zA (And.intro (Aa3 HQ2.out.1 ht.bel) (Aa3 HQ2.out.2 ht.bel))
  have NS : Aa2 (¬ S w.heap.size ∧ ¬ S (w.heap.size + 1)) := ⟨fun e => by have := ht.nS _ e; have := Ac0 HQ2.out.1; omega, fun e => by have := ht.nS _ e; have := Ac0 HQ2.out.2; omega⟩
  obtain ⟨f, hF, h0, hd⟩ := begK_fit HG.out H.out.wr dead
  rw [← hk] at hF
  have HF := zA (And.intro hF (And.intro h0 hd))
  have HSM := zA (begK_sml X.l0 (ps := ps) (ls := ls) (rs := rs) (dp := dp) (st := st) dead H.out.wr.bp H.out.wr.bl (by rw [← hk]; exact hF))
  rw [← hk] at HSM
  clear hk hF h0 hd KB x0 x1 x2 x3 x4 x5 x6 x7 x8 x9 x10 x11 x12 x13 x14
  have y0 : w3.cell? ⟨w.heap.size + 1, 0, none⟩ = some (.int .i64 I.op) := (Aa0 HQ3.out.2 0).trans rfl
  have y1 : w3.cell? ⟨w.heap.size + 1, 1, none⟩ = some (.int .u32 I.x) := (Aa0 HQ3.out.2 1).trans rfl
  have y2 : w3.cell? ⟨w.heap.size + 1, 2, none⟩ = some (.int .u32 I.y) := (Aa0 HQ3.out.2 2).trans rfl
  have y3 : w3.cell? ⟨w.heap.size + 1, 3, none⟩ = some (I.v3) := (Aa0 HQ3.out.2 3).trans rfl
  have y4 : w3.cell? ⟨w.heap.size + 1, 4, none⟩ = some (I.v4) := (Aa0 HQ3.out.2 4).trans rfl
  have y5 : w3.cell? ⟨w.heap.size + 1, 5, none⟩ = some (I.v5) := (Aa0 HQ3.out.2 5).trans rfl
  have y6 : w3.cell? ⟨w.heap.size + 1, 6, none⟩ = some (I.v6) := (Aa0 HQ3.out.2 6).trans rfl
  have y7 : w3.cell? ⟨w.heap.size + 1, 7, none⟩ = some (I.v7) := (Aa0 HQ3.out.2 7).trans rfl
  have y8 : w3.cell? ⟨w.heap.size + 1, 8, none⟩ = some (I.v8) := (Aa0 HQ3.out.2 8).trans rfl
  have y9 : w3.cell? ⟨w.heap.size + 1, 9, none⟩ = some (I.v9) := (Aa0 HQ3.out.2 9).trans rfl
  have y10 : w3.cell? ⟨w.heap.size + 1, 10, none⟩ = some (I.v10) := (Aa0 HQ3.out.2 10).trans rfl
  have y11 : w3.cell? ⟨w.heap.size + 1, 11, none⟩ = some (I.v11) := (Aa0 HQ3.out.2 11).trans rfl
  have y12 : w3.cell? ⟨w.heap.size + 1, 12, none⟩ = some (I.v12) := (Aa0 HQ3.out.2 12).trans rfl
  have y13 : w3.cell? ⟨w.heap.size + 1, 13, none⟩ = some (I.v13) := (Aa0 HQ3.out.2 13).trans rfl
  have y14 : w3.cell? ⟨w.heap.size + 1, 14, none⟩ = some (.slice I.AL I.ls.length I.cL) := (Aa0 HQ3.out.2 14).trans rfl
  have y15 : w3.cell? ⟨w.heap.size + 1, 15, none⟩ = some (I.v15) := (Aa0 HQ3.out.2 15).trans rfl
  have y16 : w3.cell? ⟨w.heap.size + 1, 16, none⟩ = some (I.v16) := (Aa0 HQ3.out.2 16).trans rfl
  by_cases h4 : I.op = 4
  ·have g4 : (I.op == 4) = true := by rw [beq_iff_eq]; exact h4
   clear ht h4
   have KA := Al8 w3
   go_wp2_with fail
   refine KA.mono ?_
   rintro e w9 ⟨rfl, hb⟩
   have B9 := zA (TD.out.bel.trans (hb.mono TD.out.bel.size))
   clear KA hb
   go_wp2_with fail
   go_ret
   exact ⟨rfl, B9.out⟩
  have g4 : (I.op == 4) = false := beq_eq_false_iff_ne.mpr h4
  have H4 := zA h4
  have KS := Bs6 (w1 := w) ht.st HF.out.1 H.out.xk TD.out.bel (fun y e => e.elim (TD.out.nS y) (fun e => by rw [e]; exact TD.out.nd)) HG.out HSM.out.2 HIB.out HCA.out h4
  clear ht h4
  have x0 : w3.cell? ⟨w.heap.size, 0, none⟩ = some (.slice X.A0 X.l0.length X.c0) := (Aa0 HQ3.out.1 0).trans rfl
  have x1 : w3.cell? ⟨w.heap.size, 1, none⟩ = some (.slice X.A1 X.l1.length X.c1) := (Aa0 HQ3.out.1 1).trans rfl
  have x2 : w3.cell? ⟨w.heap.size, 2, none⟩ = some (.slice X.A2 X.l2.length X.c2) := (Aa0 HQ3.out.1 2).trans rfl
  have x3 : w3.cell? ⟨w.heap.size, 3, none⟩ = some (.slice X.A3 X.l3.length X.c3) := (Aa0 HQ3.out.1 3).trans rfl
  have x4 : w3.cell? ⟨w.heap.size, 4, none⟩ = some (.slice X.A4 X.l4.length X.c4) := (Aa0 HQ3.out.1 4).trans rfl
  have x5 : w3.cell? ⟨w.heap.size, 5, none⟩ = some (.slice X.A5 X.l5.length X.c5) := (Aa0 HQ3.out.1 5).trans rfl
  have x6 : w3.cell? ⟨w.heap.size, 6, none⟩ = some (.slice X.A6 X.l6.length X.c6) := (Aa0 HQ3.out.1 6).trans rfl
  have x7 : w3.cell? ⟨w.heap.size, 7, none⟩ = some (.int .i64 X.d7) := (Aa0 HQ3.out.1 7).trans rfl
  have x8 : w3.cell? ⟨w.heap.size, 8, none⟩ = some (.slice X.A8 X.l8.length X.c8) := (Aa0 HQ3.out.1 8).trans rfl
  go_wp2_with fail
  refine KS.mono ?_
  rintro e w4 ⟨er, k1, S4, rfl, q4, hq⟩
  have U4 := zA (T3.out.prog q4)
  have HQ4 := zA (And.intro (q4.chg.blk HQ3.out.1 NS.out.1) (q4.chg.blk HQ3.out.2 NS.out.2))
  have T4 := zA (U4.out.down B2.out)
  have HQQ := zA hq
  clear KS q4 hq g4 x0 x1 x2 x3 x4 x5 x6 x7 x8 y0 y1 y2 y3 y4 y5 y6 y7 y8 y9 y10 y11 y12 y13 y14 y15 y16
  by_cases he : er = 0
  rotate_left
  ·have g1 : (er != 0) = true := bne_iff_ne.mpr he
   clear he
   have KA := Al8 w4
   go_wp2_with fail
   refine KA.mono ?_
   rintro e w9 ⟨rfl, hb⟩
   have B9 := zA (T4.out.bel.trans (hb.mono T4.out.bel.size))
   clear KA hb
   go_wp2_with fail
   go_ret
   exact ⟨rfl, B9.out⟩
  subst he
  obtain ⟨o', hbt, hp, hk1⟩ := HQQ.out rfl
  obtain ⟨ins, hins⟩ : ∃ l, l = (btV X.l0 t v).1 := ⟨_, rfl⟩
  obtain ⟨outs, houts⟩ : ∃ l, l = (btV X.l0 t v).2.1 := ⟨_, rfl⟩
  have hlen := Bb3 X.l0 H.out.x.bulk t v
  have K6 := Bc8 w X.A0 X.c0 X.l0 X.A1 X.c1 X.l1 X.A2 X.c2 X.l2 X.A3 X.c3 X.l3 X.A4 X.c4 X.l4 X.A5 X.c5 X.l5 X.A6 X.c6 X.l6 X.d7 X.A8 X.c8 X.l8 t v w4 T4.out.bel H.out.x HIB.out.t64
  unfold FtL at K6
  rw [← hins, ← houts] at hlen hk1 K6
  rw [← hins] at hp
  subst hk1
  have HP := zA hp
  have HL := zA hlen
  clear hbt hp hlen hins houts HQQ
  have x0 : w4.cell? ⟨w.heap.size, 0, none⟩ = some (.slice X.A0 X.l0.length X.c0) := (Aa0 HQ4.out.1 0).trans rfl
  have x1 : w4.cell? ⟨w.heap.size, 1, none⟩ = some (.slice X.A1 X.l1.length X.c1) := (Aa0 HQ4.out.1 1).trans rfl
  have x2 : w4.cell? ⟨w.heap.size, 2, none⟩ = some (.slice X.A2 X.l2.length X.c2) := (Aa0 HQ4.out.1 2).trans rfl
  have x3 : w4.cell? ⟨w.heap.size, 3, none⟩ = some (.slice X.A3 X.l3.length X.c3) := (Aa0 HQ4.out.1 3).trans rfl
  have x4 : w4.cell? ⟨w.heap.size, 4, none⟩ = some (.slice X.A4 X.l4.length X.c4) := (Aa0 HQ4.out.1 4).trans rfl
  have x5 : w4.cell? ⟨w.heap.size, 5, none⟩ = some (.slice X.A5 X.l5.length X.c5) := (Aa0 HQ4.out.1 5).trans rfl
  have x6 : w4.cell? ⟨w.heap.size, 6, none⟩ = some (.slice X.A6 X.l6.length X.c6) := (Aa0 HQ4.out.1 6).trans rfl
  have x7 : w4.cell? ⟨w.heap.size, 7, none⟩ = some (.int .i64 X.d7) := (Aa0 HQ4.out.1 7).trans rfl
  have x8 : w4.cell? ⟨w.heap.size, 8, none⟩ = some (.slice X.A8 X.l8.length X.c8) := (Aa0 HQ4.out.1 8).trans rfl
  have z0 : w4.cell? ⟨w.heap.size + 1, 7, none⟩ = some (.int .i64 t) := (Aa0 HQ4.out.2 7).trans (show _ = _ from by rw [← HIB.out.e7]; rfl)
  have z1 : w4.cell? ⟨w.heap.size + 1, 8, none⟩ = some (.int .i64 v.f0) := (Aa0 HQ4.out.2 8).trans (show _ = _ from by rw [← HIB.out.e8]; rfl)
  have z2 : w4.cell? ⟨w.heap.size + 1, 9, none⟩ = some (.bool v.f1) := (Aa0 HQ4.out.2 9).trans (show _ = _ from by rw [← HIB.out.e9]; rfl)
  have z3 : w4.cell? ⟨w.heap.size + 1, 10, none⟩ = some (.int .i64 v.f2) := (Aa0 HQ4.out.2 10).trans (show _ = _ from by rw [← HIB.out.e10]; rfl)
  go_wp2_with fail
  refine K6.mono ?_
  rintro e w5 ⟨v1, v2, rfl, l1, l2, hb5⟩
  obtain ⟨⟨A1, c1, rfl, _⟩, m1⟩ := l1
  obtain ⟨⟨A2, c2, rfl, _⟩, m2⟩ := l2
  have hfp : ∀ x, (S4 x ∨ x = d) → w.heap.size ≤ x ∧ x < w4.heap.size := fun x e => ⟨e.elim (T4.out.nS x) (fun e => by rw [e]; exact T4.out.nd), U4.out.rs.lt x e⟩
  have M1 := zA (m1 _ hfp)
  have M2 := zA (m2 _ hfp)
  have U5 := zA (U4.out.below hb5)
  have HQ5 := zA (And.intro (Aa3 HQ4.out.1 hb5) (Aa3 HQ4.out.2 hb5))
  have hho : o'.length ≤ k.ops.length := by have h3 := (Bd2 (l := k.l) (dead := f.dead) ins k.ops HF.out.1.h).2; have h9 := HP.out; rw [HKE.out] at h3 h9 ⊢; dsimp only [begK] at h3 h9 ⊢; rw [h9] at h3; exact h3
  have HO := zA hho
  have KU : Calls Tryz.prog 13 #[.pointer (some ⟨g, 0, none⟩)] w5 (KOut _ S4 g (unrM { k with ops := o' ++ ins, frames := k.frames ++ [(⟨I.op, ins, outs, o'.length, k.sets, false⟩ : Fr)] } ⟨I.op, ins, outs, o'.length, k.sets, false⟩) (.int .i64 0) w5) :=
   An2 U5.out.st (Bp9 _ _) (by dsimp only; rw [List.length_append]; omega) (by dsimp only; rw [List.length_append]; have := HF.out.1.ops; have := HL.out.1; omega) (by dsimp only; rw [List.length_append, List.length_singleton]; have := HF.out.1.frs; omega)
  rw [Cg7 _ _ _ _ rfl] at KU
  clear K6 m1 m2 hfp hb5 hho x0 x1 x2 x3 x4 x5 x6 x7 x8 z0 z1 z2 z3
  obtain ⟨n1, hn1⟩ : ∃ n, n = ins.length := ⟨_, rfl⟩
  obtain ⟨n2, hn2⟩ : ∃ n, n = outs.length := ⟨_, rfl⟩
  rw [← hn1] at M1 ⊢
  rw [← hn2] at M2 ⊢
  have HN := zA (And.intro hn1 hn2)
  clear hn1 hn2
  go_wp2_with fail
  refine KU.mono ?_
  rintro e w6 ⟨rfl, S6, q6⟩
  have U6 := zA (U5.out.prog q6)
  have M16 := zA (M1.out.kst q6)
  have M26 := zA (M2.out.kst q6)
  have NS4 : Aa2 (¬ S4 w.heap.size ∧ ¬ S4 (w.heap.size + 1)) := ⟨fun e => by have := U4.out.nS _ e; have := Ac0 HQ2.out.1; omega, fun e => by have := U4.out.nS _ e; have := Ac0 HQ2.out.2; omega⟩
  have HQ6 := zA (And.intro (q6.chg.blk HQ5.out.1 NS4.out.1) (q6.chg.blk HQ5.out.2 NS4.out.2))
  have KC := Cf1 (f := ⟨I.op, ins, outs, o'.length, k.sets, true⟩) (o' := o') U6.out.st HF.out.1.g (Bp9 _ _) (Nat.le_refl _) (by have := HO.out; have := HF.out.1.ops; dsimp only; omega) (by dsimp only; rw [List.length_append, List.length_singleton]; have := HF.out.1.frs; omega) (by have := HL.out.1; dsimp only; omega) (by have := HL.out.2; dsimp only; omega) (by have := HSM.out.2; dsimp only; omega) (Bu3 _ rfl _) rfl H4.out (by dsimp only; rw [List.length_append, List.length_singleton]; have := HF.out.1.pos; omega) X
  clear KU q6
  have x0 : w6.cell? ⟨w.heap.size, 0, none⟩ = some (.slice X.A0 X.l0.length X.c0) := (Aa0 HQ6.out.1 0).trans rfl
  have x1 : w6.cell? ⟨w.heap.size, 1, none⟩ = some (.slice X.A1 X.l1.length X.c1) := (Aa0 HQ6.out.1 1).trans rfl
  have x2 : w6.cell? ⟨w.heap.size, 2, none⟩ = some (.slice X.A2 X.l2.length X.c2) := (Aa0 HQ6.out.1 2).trans rfl
  have x3 : w6.cell? ⟨w.heap.size, 3, none⟩ = some (.slice X.A3 X.l3.length X.c3) := (Aa0 HQ6.out.1 3).trans rfl
  have x4 : w6.cell? ⟨w.heap.size, 4, none⟩ = some (.slice X.A4 X.l4.length X.c4) := (Aa0 HQ6.out.1 4).trans rfl
  have x5 : w6.cell? ⟨w.heap.size, 5, none⟩ = some (.slice X.A5 X.l5.length X.c5) := (Aa0 HQ6.out.1 5).trans rfl
  have x6 : w6.cell? ⟨w.heap.size, 6, none⟩ = some (.slice X.A6 X.l6.length X.c6) := (Aa0 HQ6.out.1 6).trans rfl
  have x7 : w6.cell? ⟨w.heap.size, 7, none⟩ = some (.int .i64 X.d7) := (Aa0 HQ6.out.1 7).trans rfl
  have x8 : w6.cell? ⟨w.heap.size, 8, none⟩ = some (.slice X.A8 X.l8.length X.c8) := (Aa0 HQ6.out.1 8).trans rfl
  go_wp2_with fail
  refine KC.mono ?_
  rintro e w7 ⟨rfl, S7, q7⟩
  have U7 := zA (U6.out.prog q7)
  have M17 := (M16.out.kst q7)
  have M27 := (M26.out.kst q7)
  rw [HN.out.1] at M17
  rw [HN.out.2] at M27
  have hpk : Al5 k.l f.height f.dead ins k.ops = (0, o') := by have h9 := HP.out; rw [HKE.out] at h9 ⊢; exact h9
  have KW := Bt9 (E := fun x => S7 x ∨ x = d) U7.out.rs HSM.out.1 HF.out.1.g HF.out.1.lf HF.out.1.h (by have := HF.out.1.ops; omega) M17 M27 (by have := HL.out.1; omega) (by have := HL.out.2; omega) hpk
  rw [if_pos rfl, ← HN.out.1, ← HN.out.2] at KW
  clear KC q7 M17 M27 hpk x0 x1 x2 x3 x4 x5 x6 x7 x8
  go_wp2_with fail
  refine KW.mono ?_
  rintro e w8 ⟨rfl, hr8, hc8⟩
  have U8 := zA (U7.out.ref hr8 hc8)
  clear KW hr8 hc8
  go_wp2_with fail
  obtain ⟨w9, hw9⟩ : ∃ w9, World.drew w8 = w9 := ⟨_, rfl⟩
  have b9 : Below w8.heap.size w8 w9 := by rw [← hw9]; exact (Below.refl _ _).drew
  have U9 := zA (U8.out.below b9)
  obtain ⟨vl, vlo, vs, vst, vf, vr, hrv⟩ := U9.out.rs
  obtain ⟨As, cs, rfl⟩ := hrv.stk.slice
  obtain ⟨Af, cf, rfl⟩ := hrv.frs.slice
  have z3 := hrv.c3
  have z4 := hrv.c4
  have LS := zA hrv.stk
  obtain ⟨ns, hns⟩ : ∃ n, n = (o' ++ outs).length := ⟨_, rfl⟩
  obtain ⟨nf, hnf⟩ : ∃ n, n = (k.frames.map Fr.q).length := ⟨_, rfl⟩
  dsimp only at z3 z4 LS
  rw [← hns] at z3 LS
  rw [← hnf] at z4
  have HNS : Aa2 ((o' ++ outs).length ≤ 16777216) := ⟨by rw [List.length_append]; have := HO.out; have := HF.out.1.ops; have := HL.out.2; omega⟩
  obtain ⟨nd, hnd⟩ : ∃ n, n = (Ao0 { k with ops := o', frames := k.frames ++ [(⟨I.op, ins, outs, o'.length, k.sets, true⟩ : Fr)] } ⟨I.op, ins, outs, o'.length, k.sets, true⟩ o').frames.length := ⟨_, rfl⟩
  have HND := zA hnd
  have gd : ((nd : Int) == (nf : Int)) = true := by rw [beq_iff_eq, hnd, hnf, Bp8, List.length_map]
  have TT := zA (U9.out.down B2.out)
  clear hrv b9 hns hnf hnd
  refine Ab3 (n := 21) (S := fun w' => w'.cell? ⟨d, 3, none⟩ = some (.slice As ns cs) ∧ w'.cell? ⟨d, 4, none⟩ = some (.slice Af nf cf)) (ds := [18]) (bm_ 21 0) (by kernel_rfl) rfl rfl ⟨(by rw [hw9]; exact z3), (by rw [hw9]; exact z4)⟩ (fun hHeld => ?_)
  rw [hw9] at hHeld ⊢
  clear hw9 z3 z4
  refine pz_ 0 57 21 1 ?_
  refine pz_ 2 59 21 5 ?_
  refine pz_ 3 60 21 13 ?_
  refine pz_ 4 61 21 29 ?_
  refine tz_ 5 62 21 61 hHeld ?_
  refine oz_ 1 58 21 63 fun K hK => ?_
  refine gz_ Tryz.func17 #[.pointer (some ⟨g, 0, none⟩)] ?_
  with_reducible refine (Bd8 U9.out.st (by have := HNS.out; dsimp only; omega)).mono ?_
  rintro e w10 ⟨v10, rfl, lk10, hb_⟩
  obtain ⟨Ao, co, rfl⟩ := lk10.slice
  have L10 := zA lk10
  have U10 := zA (U9.out.below hb_)
  have S10 := zA (LS.out.below hb_)
  have B10 := zA (TT.out.bel.trans (hb_.mono TT.out.bel.size))
  have g_ : _ ∧ _ := ⟨hb_.kp hHeld.1, hb_.kp hHeld.2⟩
  clear lk10
  refine ⟨_, rfl, ?_⟩
  refine hK.out _ _ ⟨g_.1, g_.2⟩ (fun hHeld => ?_)
  clear hK K
  refine nz_ ?_
  refine oz_ 6 63 21 127 fun K hK => ?_
  refine gz_ Tryz.func16 #[.slice Ao (o' ++ outs).length co, .slice As ns cs] ?_
  with_reducible refine (Bv1 HNS.out L10.out S10.out).mono ?_
  rintro e w11 ⟨rfl, hb_⟩
  have U11 := zA (U10.out.below hb_)
  have B11 := zA (B10.out.trans (hb_.mono B10.out.size))
  have g_ : _ ∧ _ := ⟨hb_.kp hHeld.1, hb_.kp hHeld.2⟩
  refine ⟨_, rfl, ?_⟩
  refine hK.out _ _ ⟨g_.1, g_.2⟩ (fun hHeld => ?_)
  clear hK K
  refine nz_ ?_
  refine pz_ 7 64 21 255 ?_
  refine pz_ 8 65 21 511 ?_
  refine pz_ 10 67 21 1535 ?_
  refine pz_ 11 68 21 3583 ?_
  refine pz_ 12 69 21 7679 ?_
  refine tz_ 13 70 21 15871 hHeld ?_
  refine pz_ 14 71 21 32255 ?_
  refine oz_ 9 66 21 32767 fun K hK => ?_
  refine gz_ Tryz.func18 #[.pointer (some ⟨g, 0, none⟩)] ?_
  with_reducible refine (Ay7 U11.out.st).mono ?_
  rintro e w12 ⟨rfl, e12⟩
  subst e12
  rw [show ({ Ao0 { k with ops := o', frames := k.frames ++ [(⟨I.op, ins, outs, o'.length, k.sets, true⟩ : Fr)] } ⟨I.op, ins, outs, o'.length, k.sets, true⟩ o' with ops := o' ++ outs } : Chk).frames.length = nd from HND.out.symm]
  refine ⟨_, rfl, ?_⟩
  refine hK.out _ _ ⟨hHeld.1, hHeld.2⟩ (fun hHeld => ?_)
  clear hK K
  refine nz_ ?_
  refine pz_ 15 72 21 65535 ?_
  refine pz_ 16 73 21 131071 ?_
  refine pz_ 17 74 21 262143 ?_
  refine lz_ 18 75 21 524287 fun K hK => ?_
  refine goes_ Tryz.func9 (by kernel_rfl) rfl #[] (by rfl) rfl rfl (by simp only [List.map_toArray, List.map_nil]) ?_
  with_reducible refine ((Al8 _)).mono ?_
  rintro e w13 ⟨rfl, hb_⟩
  have B13 := zA (B11.out.trans (hb_.mono B11.out.size))
  clear hb_
  refine ⟨_, rfl, ?_⟩
  refine hK.out _ _ ?_
  clear hK K
  refine nz_ ?_
  refine pz_ 19 76 21 1048575 ?_
  refine pz_ 20 4 21 2097151 ?_
  refine dz_ ?_
  go_wp2_with fail
  go_ret
  exact ⟨rfl, B13.out⟩
end
end Go.Proofs.YtohlmkcgempdlaaGreatDoor.Cn
