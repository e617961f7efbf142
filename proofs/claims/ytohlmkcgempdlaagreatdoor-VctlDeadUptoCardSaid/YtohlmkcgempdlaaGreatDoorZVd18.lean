/- Parts of the proof of vctlDead_holds (18 of 24): what it says and shows stands at its declarations. -/
import Derived.Test.YtohlmkcgempdlaaGreatDoorZVd17
import Derived.LoopTactic
namespace Go.Proofs.YtohlmkcgempdlaaGreatDoor.Cn
set_option linter.unusedSimpArgs false
set_option maxRecDepth 100000
set_option linter.unusedVariables false
open Go.RowKit Go.Maps Go.Proofs.YtohlmkcgempdlaaGreatDoorW.PrintWords Go.Proofs.YtohlmkcgempdlaaGreatDoorW.PrintLast Go.Proofs.YtohlmkcgempdlaaGreatDoorW.PrintMore Go.Proofs.YtohlmkcgempdlaaGreatDoor.QD
/-- A frame's cells in a row that is read. -/
structure QAt (F : Nat → Prop) (W : World) (a : Addr) (f : Fr) (A1 : Option Addr) (c1 : Nat) (A2 : Option Addr) (c2 : Nat) (A4 : Option Addr) (c4 : Nat) : Prop where
 op : W.cell? a = some (.int .i64 f.op)
 ins : W.cell? ⟨a.block, a.off + 1, none⟩ = some (.slice A1 f.ins.length c1)
 outs : W.cell? ⟨a.block, a.off + 2, none⟩ = some (.slice A2 f.outs.length c2)
 height : W.cell? ⟨a.block, a.off + 3, none⟩ = some (.int .i64 f.height)
 sets : W.cell? ⟨a.block, a.off + 4, none⟩ = some (.slice A4 f.sets.length c4)
 dead : W.cell? ⟨a.block, a.off + 5, none⟩ = some (.bool f.dead)
 fk : Kd.FK k139 W F f.q [.int .i64 f.op, .slice A1 f.ins.length c1, .slice A2 f.outs.length c2, .int .i64 f.height, .slice A4 f.sets.length c4, .bool f.dead]
theorem qfr_at {F : Nat → Prop} {W : World} {A : Option Addr} {n : Nat} {xs : List Fr} (h : Kd.F k139 W F A n (xs.map Fr.q)) {j : Nat} {f : Fr} (hj : xs[j]? = some f) : ∃ ad A1 c1 A2 c2 A4 c4, A = some ad ∧ QAt F W (ad.add (j * 6)) f A1 c1 A2 c2 A4 c4 := by
 obtain ⟨hl, hm, hn⟩ := Kd.F_rows h
 have hjl := (List.getElem?_eq_some_iff.1 hj).1
 rw [List.length_map] at hl
 obtain ⟨ad, rfl, hc⟩ := hn (by omega)
 obtain ⟨c, hcl, hK, hcc0⟩ := hc j f.q (by rw [List.getElem?_map, hj]; rfl)
 have hcc : ∀ i u, c[i]? = some u → W.cell? (ad.add (j * 6 + i)) = some u := hcc0
 have hK2 := hK
 obtain ⟨A1, c1, A2, c2, A4, c4, rfl, _⟩ := k139_openF hK
 exact ⟨ad, A1, c1, A2, c2, A4, c4, rfl, hcc 0 _ rfl, by rw [← add_field _ _ 1 (by omega)]; exact hcc 1 _ rfl, by rw [← add_field _ _ 2 (by omega)]; exact hcc 2 _ rfl, by rw [← add_field _ _ 3 (by omega)]; exact hcc 3 _ rfl, by rw [← add_field _ _ 4 (by omega)]; exact hcc 4 _ rfl, by rw [← add_field _ _ 5 (by omega)]; exact hcc 5 _ rfl, hK2⟩
theorem LK.bound {α : Type} {K : Kd α} {E : Nat → Prop} {w w' : World} {v : Value} {xs : List α} (h : LK K E w v xs) (hb : Below w.heap.size w w') {A : Option Addr} {n c : Nat} (hv : v = .slice A n c) : Kd.F K w' (fun y => ¬ E y ∧ y < w.heap.size) A n xs := by
 subst hv
 exact Kd.F_below (Kd.F_bound h.F) hb
theorem lk_of_cr {α : Type} {d : Kd α} {e : Nat} {ok S : Nat → Prop} {W : World} {A : Option Addr} {c n : Nat} {rows : List (List Value)} {xs : List α} (hcr : CR d.sz e ok W A c rows) (hl : rows.length = xs.length) (hn : n = xs.length) (hf : ∀ (j : Nat) (x : α) (cs : List Value), xs[j]? = some x → rows[j]? = some cs → Kd.FK d W (fun y => ¬ S y) x cs) (hok : ∀ y, ok y → ¬ S y) : LK d S W (.slice A n c) xs := by
 subst hn
 have h0 := hcr.reads.1
 refine LK.mk (by omega) (fun W' hW => ?_)
 have c1 := (hcr.step (W' := W') (fun z hz hl => hW z (hok z hz) hl)).reads.2
 obtain ⟨a1, a2, a3⟩ := c1
 refine ⟨rfl, by omega, fun hp => ?_⟩
 obtain ⟨ad, e1, hc⟩ := a3 (by omega)
 refine ⟨ad, e1, fun q z hz => ?_⟩
 have hql := (List.getElem?_eq_some_iff.1 hz).1
 obtain ⟨c9, d3, ⟨rfl, _⟩, d5⟩ := hc q _ (List.getElem?_eq_getElem (show q < rows.length by omega))
 exact ⟨_, d3, hf q z _ hz (List.getElem?_eq_getElem (show q < rows.length by omega)) W' (fun y hy hl => hW y hy hl), d5⟩
/-- The last frame of a row that was made is told dead. -/
theorem qf_kill {E : Nat → Prop} {W : World} {base n c m : Nat} {A : Option Addr} {xs : List Fr} {f : Fr} (h : Kd.N k139 139 W base (fun y => ¬ E y) (.slice A n c) (xs.map Fr.q)) (hx : xs[m]? = some f) :
  ∃ b, A = some ⟨b, 0, none⟩ ∧ W.cell? ⟨b, m * 6 + 5, none⟩ = some (.bool f.dead) ∧ W.frozen? ⟨b, m * 6 + 5, none⟩ = false ∧ base ≤ b ∧ LK k139 E (W.setCell ⟨b, m * 6 + 5, none⟩ (.bool true)) (.slice A n c) ((xs.set m { f with dead := true }).map Fr.q) := by
 have hn := (Kd.N_reads' h).1
 have hbase := Kd.N_base h
 obtain ⟨h0, rows, hl, hR, hf⟩ := h
 rw [List.length_map] at hl hn
 have hml := (List.getElem?_eq_some_iff.1 hx).1
 have hcr : CR 6 139 (fun y => some y = (Value.slice A n c).ownBlock) W A c rows := ⟨rows, c, by rw [hl, ← hn]; exact Kd.R_lower hR (Nat.zero_le _), by rw [List.take_length], .inl ⟨rfl, rfl⟩⟩
 have hi : rows[m]? = some rows[m] := List.getElem?_eq_getElem (by omega)
 obtain ⟨b, cells, rfl, hbb, hcell⟩ := hcr.at0 hi
 have hfm := hf m f.q _ (by rw [List.getElem?_map, hx]; rfl) hi
 obtain ⟨A1, c1, A2, c2, A4, c4, e1, l1, g1, l2, g2, l4, g4⟩ := k139_openF hfm
 rw [e1] at hcell
 have far : ∀ z : Nat, z ≠ b → (W.setCell ⟨b, m * 6 + 5, none⟩ (.bool true)).heap[z]? = W.heap[z]? := fun z hz => Below.heap_setCell W ⟨b, m * 6 + 5, none⟩ _ z hz
 have mv : ∀ {x : S139} {cs : List Value}, Kd.FK k139 W (fun k => ¬ E k ∧ some k ≠ (Value.slice (some ⟨b, 0, none⟩) n c).ownBlock) x cs → Kd.FK k139 (W.setCell ⟨b, m * 6 + 5, none⟩ (.bool true)) (fun y => ¬ E y) x cs := fun hk =>
  Kd.FK_mono (Kd.FK_step hk (fun z hz _ => far z (fun e => hz.2 (by rw [e]; rfl)))) (fun z hz => hz.1)
 refine ⟨b, rfl, hcell 5 _ rfl, blk_frozen hbb _, hbase b rfl, lk_of_cr (d := k139) (hcr.put hi (j := 5) (by decide) (.bool true) rfl) (by rw [List.length_set, List.length_map, List.length_set, hl]) (by rw [List.length_map, List.length_set, hn]) (fun j x cs hx2 hcs => ?_) (fun y hy => h0 y hy.symm)⟩
 by_cases hj : m = j
 ·subst hj
  rw [List.getElem?_map, List.getElem?_set_self hml] at hx2
  rw [List.getElem?_set_self (by omega)] at hcs
  injection hcs with hcs
  simp only [Option.map_some, Option.some.injEq] at hx2
  subst hx2 hcs
  rw [e1]
  obtain ⟨B1, d1, B2, d2, B4, d4, e2, m1, k1, m2, k2, m4, k4⟩ := k139_openF (mv hfm)
  rw [e1] at e2
  simp only [List.cons.injEq, Value.slice.injEq] at e2
  obtain ⟨_, ⟨rfl, _, rfl⟩, ⟨rfl, _, rfl⟩, _, ⟨rfl, _, rfl⟩, _⟩ := e2
  exact k139_mkF _ _ (Fr.q { f with dead := true }) m1 k1 m2 k2 m4 k4
 ·rw [List.getElem?_map, List.getElem?_set_ne hj] at hx2
  rw [List.getElem?_set_ne hj] at hcs
  exact mv (hf j x cs (by rw [List.getElem?_map]; exact hx2) hcs)
section
variable {E : Nat → Prop} {d : Nat} {k : Chk} {w : World}
set_option maxHeartbeats 2000000 in
theorem qTop_calls (m c : Nat) (ad : Addr) (w : World) (h : w.cell? ⟨d, 4, none⟩ = some (.slice (some ad) (m + 1) c)) (hm : m + 1 ≤ 4294967296) :
  Calls Tryz.prog 74 #[.pointer (some ⟨d, 0, none⟩)] w fun e w' => e = .returned (.pointer (some (ad.add (m * 6)))) ∧ Below w.heap.size w w' := by
 have hw : wrap64 (((m + 1 : Nat) : Int) - 1) = (m : Int) := by unfold wrap64; omega
 have hw2 : wrap64 (m : Int) = (m : Int) := by unfold wrap64; omega
 have hb : ((m : Int) < (m : Int) + 1) = True := by simp; omega
 have hb2 : ((m : Int) < ((m + 1 : Nat) : Int)) = True := by simp; omega
 clear hm
 go_enter Tryz.func74, Tryz.ntmps74
 go_wp2_with fail
 refine start_ (n := 12) (S := fun w' => w'.cell? ⟨d, 4, none⟩ = some (.slice (some ad) (m + 1) c)) (ds := []) (bm_ 12 0) (by kernel_rfl) rfl rfl (h) (fun hHeld => ?_)
 refine pz_ 0 3 12 1 ?_
 refine pz_ 1 4 12 3 ?_
 refine pz_ 2 5 12 7 ?_
 refine pz_ 4 7 12 23 ?_
 refine pz_ 5 8 12 55 ?_
 refine pz_ 6 9 12 119 ?_
 refine tz_ 3 6 12 127 hHeld ?_
 refine tz_ 7 10 12 255 hHeld ?_
 refine pz_ 8 11 12 511 ?_
 refine pz_ 9 12 12 1023 ?_
 refine pz_ 10 13 12 2047 ?_
 refine pz_ 11 2 12 4095 ?_
 refine dz_ ?_

 go_wp2_with fail
 go_ret
 exact ⟨rfl, (Below.refl _ _).drew⟩
/-- The last frame of the reference's. -/
theorem RV.top {vl vlo vs vst vf vr : Value} (h : RV E d k w vl vlo vs vst vf vr) {f : Fr} (hf : k.frames[k.frames.length - 1]? = some f) : ∃ ad m cf A1 c1 A2 c2 A4 c4, vf = .slice (some ad) (m + 1) cf ∧ k.frames.length = m + 1 ∧ QAt (fun y => ¬ E y) w (ad.add (m * 6)) f A1 c1 A2 c2 A4 c4 := by
 obtain ⟨Af, cf, rfl⟩ := h.frs.slice
 have hl := (List.getElem?_eq_some_iff.1 hf).1
 obtain ⟨m, hm⟩ : ∃ m, k.frames.length = m + 1 := ⟨k.frames.length - 1, by omega⟩
 rw [hm, Nat.add_sub_cancel] at hf
 obtain ⟨ad, A1, c1, A2, c2, A4, c4, rfl, hq⟩ := qfr_at h.frs.F hf
 exact ⟨ad, m, cf, A1, c1, A2, c2, A4, c4, by rw [List.length_map, hm], hm, hq⟩
theorem LK.take {α : Type} {K : Kd α} {A : Option Addr} {c : Nat} {xs : List α} (h : LK K E w (.slice A xs.length c) xs) (m : Nat) (hm : m ≤ xs.length) : LK K E w (.slice A m c) (xs.take m) := by
 have hl : (xs.take m).length = m := by rw [List.length_take]; omega
 have h1 := Kd.F_take h.F hm
 have h2 : LK K E w (.slice A (xs.take m).length c) (xs.take m) := LK.mk (by have := h.reads.2.1; omega) h1
 rw [hl] at h2
 exact h2
set_option maxHeartbeats 8000000 in
theorem qUnreachable_calls (h : R13 E d k w) {f : Fr} (hf : k.frames[k.frames.length - 1]? = some f) (hh : f.height ≤ k.ops.length) (hm : k.ops.length ≤ 4294967296) (hn : k.frames.length ≤ 4294967296) :
  Calls Tryz.prog 35 #[.pointer (some ⟨d, 0, none⟩)] w (RQ E d { k with ops := k.ops.take f.height, frames := k.frames.set (k.frames.length - 1) { f with dead := true } } (.int .i64 0) w) := by
 obtain ⟨vl, vlo, vs, vst, vf, vr, h⟩ := h
 obtain ⟨ad, m, cf, A1, c1, A2, c2, A4, c4, rfl, hfm, hq⟩ := h.top hf
 obtain ⟨As, cs, rfl⟩ := h.stk.slice
 rw [hfm, Nat.add_sub_cancel]
 rw [hfm, Nat.add_sub_cancel] at hf
 have H0 := Aside0.mk h
 have HQ := Aside0.mk hq
 have HF := Aside0.mk hf
 have HFM := Aside0.mk hfm
 have HM := Aside0.mk (And.intro hm (And.intro hn hh))
 obtain ⟨no, hno⟩ : ∃ no, no = k.ops.length := ⟨_, rfl⟩
 have HNO := Aside0.mk hno
 have c4 := h.c4
 have c3 := h.c3
 have hht := hq.height
 rw [← hno] at c3
 have hm1 : m + 1 ≤ 4294967296 := by omega
 have hz : (((m + 1 : Nat) : Int) == 0) = false := beq_eq_false_iff_ne.mpr (by omega)
 have hz2 : ((m : Int) + 1 == 0) = false := beq_eq_false_iff_ne.mpr (by omega)
 have hle : ((f.height : Int) ≤ (no : Int)) = True := by simp; omega
 have hcs : no ≤ cs := by rw [hno]; exact h.stk.reads.2.1
 have hcs2 : ((no : Int) ≤ (cs : Int)) = True := by simp; omega
 have hle2 : ((f.height : Int) ≤ (cs : Int)) = True := by simp; omega
 clear h hf hfm hq hm hn hh hno hcs
 go_enter Tryz.func35, Tryz.ntmps35
 go_wp2_with fail
 obtain ⟨w3, hw3⟩ : ∃ w3, World.drew w = w3 := ⟨_, rfl⟩
 have b3 : Below w.heap.size w w3 := by rw [← hw3]; exact (Below.refl _ _).drew
 have H3 := Aside0.mk (H0.out.below b3)
 have B3 := Aside0.mk b3
 have z3 : w3.cell? ⟨d, 3, none⟩ = some (.slice As no cs) := by rw [← hw3]; exact c3
 have z4 : w3.cell? ⟨d, 4, none⟩ = some (.slice (some ad) (m + 1) cf) := by rw [← hw3]; exact c4
 have zh : w3.cell? ⟨(ad.add (m * 6)).block, (ad.add (m * 6)).off + 3, none⟩ = some (.int .i64 f.height) := by rw [← hw3]; exact hht
 clear b3 c3 c4 hht
 refine start_ (n := 15) (S := fun w' => w'.cell? ⟨d, 3, none⟩ = some (.slice As no cs) ∧ w'.cell? ⟨d, 4, none⟩ = some (.slice (some ad) (m + 1) cf) ∧ w'.cell? ⟨(ad.add (m * 6)).block, (ad.add (m * 6)).off + 3, none⟩ = some (.int .i64 f.height)) (ds := [14]) (bm_ 15 0) (by kernel_rfl) rfl rfl ⟨(by rw [hw3]; exact z3), (by rw [hw3]; exact z4), (by rw [hw3]; exact zh)⟩ (fun hHeld => ?_)
 rw [hw3] at hHeld ⊢
 clear hw3 z3 z4 zh
 refine pz_ 0 11 15 1 ?_
 refine pz_ 1 12 15 3 ?_
 refine pz_ 2 13 15 7 ?_
 refine pz_ 3 14 15 15 ?_
 refine pz_ 5 16 15 47 ?_
 refine tz_ 4 15 15 63 hHeld ?_
 refine oz_ 6 17 15 127 fun K hK => ?_
 refine gz_ Tryz.func74 #[.pointer (some ⟨d, 0, none⟩)] ?_
 with_reducible refine (qTop_calls m cf ad w3 hHeld.2.1 hm1).mono ?_
 rintro e w4 ⟨rfl, hb_⟩
 have H4 := Aside0.mk (H3.out.below hb_)
 have B4 := Aside0.mk (B3.out.trans (hb_.mono B3.out.size))
 have g_ : _ ∧ _ ∧ _ := ⟨hb_.kp hHeld.1, hb_.kp hHeld.2.1, hb_.kp hHeld.2.2⟩
 refine ⟨_, rfl, ?_⟩
 refine hK.out _ _ ⟨g_.1, g_.2.1, g_.2.2⟩ (fun hHeld => ?_)
 clear hK K
 refine nz_ ?_
 refine pz_ 7 18 15 255 ?_
 refine pz_ 8 19 15 511 ?_
 refine tz_ 9 20 15 1023 hHeld ?_
 refine pz_ 10 21 15 2047 ?_
 refine oz_ 11 22 15 4095 fun K hK => ?_
 refine gz_ Tryz.func67 #[.slice As f.height cs] ?_
 with_reducible refine (q_list_calls E E (k.ops.take f.height) w4 (by have h_ := H4.out.stk; have h9 := LK.take h_ f.height HM.out.2.2; exact h9) (by rw [List.length_take]; have := HM.out; omega) H4.out.lt).mono ?_
 rintro e w5 ⟨vn, rfl, hln, hb_⟩
 obtain ⟨An, cn, rfl⟩ := hln.slice
 have hln2 : (k.ops.take f.height).length = f.height := by rw [List.length_take]; have := HM.out; omega
 rw [hln2] at hln ⊢
 have LN := Aside0.mk hln
 have H5 := Aside0.mk (H4.out.below hb_)
 have B5 := Aside0.mk (B4.out.trans (hb_.mono B4.out.size))
 have g_ : _ ∧ _ ∧ _ := ⟨hb_.kp hHeld.1, hb_.kp hHeld.2.1, hb_.kp hHeld.2.2⟩
 clear hln hln2
 refine ⟨_, rfl, ?_⟩
 refine hK.out _ _ ⟨g_.1, g_.2.1, g_.2.2⟩ (fun hHeld => ?_)
 clear hK K
 refine nz_ ?_
 refine pz_ 12 23 15 8191 ?_
 refine pz_ 13 24 15 16383 ?_
 refine last_ (i := 14) (N := none) (bm_ 15 32767) rfl rfl (by kernel_rfl) (by decide) (fun K hK => ?_)
 have hs_ : w5.cell? ⟨d, 3, none⟩ = some (.slice As no cs) := by have h_ := H5.out.c3; rw [← HNO.out] at h_; exact h_
 have hfs_ : w5.frozen? ⟨d, 3, none⟩ = false := blk_frozen H5.out.box 3
 refine sz_ ?_
 refine hK.out _ _ ?_
 clear hK K
 refine dz_ ?_

 have S6 := Aside0.mk (H5.out.stack LN.out)
 have C6 : Aside0 (Chg (fun x => x = d) w (w5.setCell ⟨d, 3, none⟩ (.slice An f.height cn))) := ⟨(Chg.of_below B5.out (fun _ => False)).trans (chg_set w5 d 3 _) (fun _ e => e.elim) (fun _ e => .inl e)⟩
 obtain ⟨w6, hw6⟩ : ∃ w6, w6 = w5.setCell ⟨d, 3, none⟩ (.slice An f.height cn) := ⟨_, rfl⟩
 rw [← hw6] at S6 C6 ⊢
 clear hw6 hle hcs2 hle2 hz hz2
 go_wp2_with fail
 go_loopw [3, 4] (fun v i W => ∃ j : Nat, i = .int .i64 j ∧ j ≤ m + 1 ∧ Kd.N k139 139 W w6.heap.size (fun y => ¬ E y) v ((k.frames.take j).map Fr.q) ∧ Below w6.heap.size w6 W) (fun _ i _ => m + 1 - (intOf i).toNat)
 case atStart => exact ⟨0, rfl, Nat.zero_le _, Kd.N_nil _ _ _ _ _, Below.refl _ _⟩
 case round =>
  obtain ⟨j, rfl, hj, hr, hb⟩ := hrel
  have R := Aside0.mk hr
  have B := Aside0.mk hb
  have c4 : wr.cell? ⟨d, 4, none⟩ = some (.slice (some ad) (m + 1) cf) := (S6.out.below hb).c4
  by_cases hlt : j < m + 1
  ·obtain ⟨x, hx⟩ : ∃ x, k.frames[j]? = some x := ⟨_, List.getElem?_eq_getElem (by have := HFM.out; omega)⟩
   obtain ⟨ad', D1, e1, D2, e2, D4, e4, eA, hqa⟩ := qfr_at (S6.out.frs.bound hb rfl) hx
   injection eA with eA
   subst eA
   obtain ⟨x0, x1, x2, x3, x4, x5, hfk⟩ := hqa
   obtain ⟨Aj, cj, ev⟩ := Kd.N_slice hr
   have hlen : ((k.frames.take j).map Fr.q).length = j := by rw [List.length_map, List.length_take]; have := HFM.out; omega
   rw [hlen] at ev
   subst ev
   have HX := Aside0.mk hx
   have HLT := Aside0.mk hlt
   have HLEN := Aside0.mk hlen
   have HFK := Aside0.mk hfk
   have hlt2 : (j : Int) < (m : Int) + 1 := by omega
   have hlt3 : (j : Int) < ((m + 1 : Nat) : Int) := by omega
   have NB : Aside0 (∀ y, (Value.slice Aj j cj).ownBlock = some y → w6.heap.size ≤ y) := ⟨Kd.N_base hr⟩
   clear hx hr hb hlen hfk
   go_wp2_with (at_builtin; refine Kd.N_append k139 (w0 := w6) w6.heap.size rfl (.tmp 34) (.tmp 42) 62 139 (.agg #[.int .i64 0, .slice none 0 0, .slice none 0 0, .int .i64 0, .slice none 0 0, .bool false]) 96 rfl Tryz.underlying62 info139 rfl (by decide) (by decide) (.slice Aj j cj) ((k.frames.take j).map Fr.q) x.q [.int .i64 x.op, .slice D1 x.ins.length e1, .slice D2 x.outs.length e2, .int .i64 x.height, .slice D4 x.sets.length e4, .bool x.dead] (fun y => ¬ E y) (fun y => ¬ E y ∧ y < w6.heap.size) rfl rfl HFK.out (fun y hy => ⟨hy.1, fun e => by have := NB.out y e.symm; have := hy.2; omega⟩) (fun y hy e => by have := S6.out.lt y e; have := B.out.size; omega) R.out B.out B.out.size (by have := HLEN.out; omega) ?_; intro v1 w1 hr1 hb1 _ _; have R1 := Aside0.mk hr1; have B1 := Aside0.mk hb1; clear hr1 hb1)
   go_roundw
   case rel => exact ⟨j + 1, by go_num, HLT.out, by rw [List.take_add_one, HX.out, List.map_append]; exact R1.out, B1.out⟩
   case measure => have := HLT.out; simp [intOf]; omega
  ·obtain rfl : j = m + 1 := by omega
   clear hlt
   have hfull : (k.frames.take (m + 1)) = k.frames := List.take_of_length_le (by have := HFM.out; omega)
   have hr' := R.out
   rw [hfull] at hr'
   obtain ⟨Al, cl, ev⟩ := Kd.N_slice hr'
   rw [List.length_map, HFM.out] at ev
   subst ev
   obtain ⟨b, eb, hcd, hfd, hbge, hlk⟩ := qf_kill hr' HF.out
   subst eb
   have c4 : wr.cell? ⟨d, 4, none⟩ = some (.slice (some ad) (m + 1) cf) := (S6.out.below B.out).c4
   have f4 : wr.frozen? ⟨d, 4, none⟩ = false := blk_frozen (S6.out.below B.out).box 4
   have hbd : b ≠ d := by have := S6.out.lt d S6.out.own; omega
   have hw : wrap64 (((m + 1 : Nat) : Int) - 1) = (m : Int) := by unfold wrap64; omega
   have hw2 : wrap64 (m : Int) = (m : Int) := by unfold wrap64; omega
   have hb1 : ((m : Int) < (m : Int) + 1) = True := by simp; omega
   have hb2 : ((m : Int) < ((m + 1 : Nat) : Int)) = True := by simp; omega
   have cw : Chg (fun x => x = b) w6 (wr.setCell ⟨b, m * 6 + 5, none⟩ (.bool true)) := (Chg.of_below B.out (fun _ => False)).trans (chg_set wr b (m * 6 + 5) (.bool true)) (fun _ e => e.elim) (fun _ e => .inl e)
   have S7a := S6.out.chg cw (E' := E) (fun x e => .inr (by rw [e]; exact hbge)) (fun _ e => .inl e) S6.out.own (fun x e => Nat.lt_of_lt_of_le (S6.out.lt x e) cw.size)
   have S7 := Aside0.mk (S7a.frames hlk)
   have C7 : Aside0 (Chg (fun x => x = d) w6 ((wr.setCell ⟨b, m * 6 + 5, none⟩ (.bool true)).setCell ⟨d, 4, none⟩ (.slice (some ⟨b, 0, none⟩) (m + 1) cl))) := ⟨cw.trans (chg_set _ d 4 _) (fun x e => .inr (by rw [e]; exact hbge)) (fun _ e => .inl e)⟩
   clear hlk cw S7a hr'
   go_wp2_with fail
   go_ret
   exact ⟨rfl, ⟨_, _, _, _, _, _, S7.out⟩, C6.out.trans C7.out (fun _ e => .inl e) (fun _ e => .inl e)⟩
end
/-- Lists that are not too long. -/
structure Sml (k : Chk) : Prop where
 loc : k.locals.length ≤ 4294967296
 set : k.sets.length ≤ 4294967296
 res : k.results.length ≤ 4294967296
 ops : k.ops.length ≤ 4294967296
 frs : k.frames.length ≤ 4294967296
section
variable {E : Nat → Prop} {d : Nat} {k : Chk} {w : World}
/-- What Copy answers. -/
def CpOut (E : Nat → Prop) (k : Chk) (w : World) (e : Ending) (w' : World) : Prop := ∃ d2, e = .returned (.pointer (some ⟨d2, 0, none⟩)) ∧ w.heap.size ≤ d2 ∧ R13 (fun y => E y ∨ y = d2) d2 k w' ∧ Below w.heap.size w w'
/-- In Copy's loop: j frames are in the new box; w6: the world ahead of the box. -/
structure QC (E : Nat → Prop) (k : Chk) (w6 : World) (d2 : Nat) (vl vlo vs vst vr : Value) (vf : Value) (j : Nat) (W : World) : Prop where
 bel : Below w6.heap.size w6 W
 box : W.heap[d2]? = some (.cells #[vl, vlo, vs, vst, vf, vr] 64 (0, 0))
 row : Kd.N k139 139 W w6.heap.size (fun y => ¬ E y ∧ y ≠ d2) vf ((k.frames.take j).map Fr.q)
theorem QC.below {w6 : World} {d2 : Nat} {vl vlo vs vst vr vf : Value} {j : Nat} {W W' : World} (h : QC E k w6 d2 vl vlo vs vst vr vf j W) (hb : Below W.heap.size W W') : QC E k w6 d2 vl vlo vs vst vr vf j W' :=
 ⟨h.bel.trans (hb.mono h.bel.size), blk_below h.box hb, Kd.N_below h.row hb⟩
theorem QC.put {w6 : World} {d2 : Nat} {vl vlo vs vst vr vf v1 : Value} {j : Nat} {x : Fr} {W W1 : World} (h : QC E k w6 d2 vl vlo vs vst vr vf j W) (hd2 : w6.heap.size ≤ d2) (hx : k.frames[j]? = some x) (hr : Kd.N k139 139 W1 w6.heap.size (fun y => ¬ E y ∧ y ≠ d2) v1 ((k.frames.take j).map Fr.q ++ [x.q])) (hb : Below w6.heap.size w6 W1) (hg : W.grownBy W1 vf.ownBlock) : QC E k w6 d2 vl vlo vs vst vr v1 (j + 1) (W1.setCell ⟨d2, 4, none⟩ v1) := by
 have hv : some d2 ≠ vf.ownBlock := Kd.N_ne h.row h.box (by decide)
 have b1 : W1.heap[d2]? = some (.cells #[vl, vlo, vs, vst, vf, vr] 64 (0, 0)) := (hg.block d2 (blk_lt h.box) hv).trans h.box
 refine ⟨hb.setCell (p := ⟨d2, 4, none⟩) hd2 _, by rw [blk_set b1]; simp, ?_⟩
 have h1 := Kd.N_far (p := ⟨d2, 4, none⟩) hr (fun y hy => hy.2) v1
 rw [List.take_add_one, hx, List.map_append]
 exact h1
set_option maxHeartbeats 8000000 in
theorem qCopy_calls (h : R13 E d k w) (hs : Sml k) : Calls Tryz.prog 56 #[.pointer (some ⟨d, 0, none⟩)] w (CpOut E k w) := by
 obtain ⟨vl, vlo, vs, vst, vf, vr, h⟩ := h
 obtain ⟨Al, cl, rfl⟩ := h.lst.slice
 obtain ⟨Af, cf, rfl⟩ := h.frs.slice
 obtain ⟨m, hm⟩ : ∃ m, m = (k.frames.map Fr.q).length := ⟨_, rfl⟩
 obtain ⟨nl, hnl⟩ : ∃ nl, nl = k.l.length := ⟨_, rfl⟩
 rw [← hm, ← hnl] at h
 have HM : Aside0 (m = k.frames.length) := ⟨by rw [hm, List.length_map]⟩
 have hm2 : m ≤ 4294967296 := by rw [hm, List.length_map]; exact hs.frs
 have H0 := Aside0.mk h
 have HS := Aside0.mk hs
 clear hm hnl hs
 go_enter Tryz.func56, Tryz.ntmps56
 go_wp2_with fail
 obtain ⟨w3, hw3⟩ : ∃ w3, World.drew w = w3 := ⟨_, rfl⟩
 have b3 : Below w.heap.size w w3 := by rw [← hw3]; exact (Below.refl _ _).drew
 have H3 := Aside0.mk (H0.out.below b3)
 have B3 := Aside0.mk b3
 have z0 := H3.out.c0
 have z1 := H3.out.c1
 have z2 := H3.out.c2
 have z3 := H3.out.c3
 have z5 := H3.out.c5
 clear b3 h
 refine start_ (n := 27) (S := fun w' => w'.cell? ⟨d, 0, none⟩ = some (.slice Al nl cl) ∧ w'.cell? ⟨d, 1, none⟩ = some vlo ∧ w'.cell? ⟨d, 2, none⟩ = some vs ∧ w'.cell? ⟨d, 3, none⟩ = some vst ∧ w'.cell? ⟨d, 5, none⟩ = some vr) (ds := []) (bm_ 27 0) (by kernel_rfl) rfl rfl ⟨(by rw [hw3]; exact z0), (by rw [hw3]; exact z1), (by rw [hw3]; exact z2), (by rw [hw3]; exact z3), (by rw [hw3]; exact z5)⟩ (fun hHeld => ?_)
 rw [hw3] at hHeld ⊢
 clear hw3 z0 z1 z2 z3 z5
 refine pz_ 0 5 27 1 ?_
 refine pz_ 1 6 27 3 ?_
 refine pz_ 2 7 27 7 ?_
 refine pz_ 4 9 27 23 ?_
 refine pz_ 5 10 27 55 ?_
 refine pz_ 6 11 27 119 ?_
 refine pz_ 9 14 27 631 ?_
 refine pz_ 10 15 27 1655 ?_
 refine pz_ 11 16 27 3703 ?_
 refine pz_ 14 19 27 20087 ?_
 refine pz_ 15 20 27 52855 ?_
 refine pz_ 16 21 27 118391 ?_
 refine pz_ 19 24 27 642679 ?_
 refine pz_ 20 25 27 1691255 ?_
 refine pz_ 21 26 27 3788407 ?_
 refine tz_ 3 8 27 3788415 hHeld ?_
 refine tz_ 7 12 27 3788543 hHeld ?_
 refine tz_ 12 17 27 3792639 hHeld ?_
 refine tz_ 17 22 27 3923711 hHeld ?_
 refine tz_ 22 27 27 8118015 hHeld ?_
 refine oz_ 8 13 27 8118271 fun K hK => ?_
 refine gz_ Tryz.func67 #[vlo] ?_
 with_reducible refine (q_list_calls E E k.locals w3 H3.out.loc (by have := HS.out.loc; omega) H3.out.lt).mono ?_
 rintro e w4 ⟨v4, rfl, h4, hb_⟩
 obtain ⟨A4, c4, rfl⟩ := h4.slice
 have L4 := Aside0.mk h4
 have H4 := Aside0.mk (H3.out.below hb_)
 have B4 := Aside0.mk (B3.out.trans (hb_.mono B3.out.size))
 clear h4 hb_
 refine ⟨_, rfl, ?_⟩
 refine hK.out _ _ ⟨H4.out.c0, H4.out.c1, H4.out.c2, H4.out.c3, H4.out.c5⟩ (fun hHeld => ?_)
 clear hK K
 refine nz_ ?_
 refine oz_ 13 18 27 8126463 fun K hK => ?_
 refine gz_ Tryz.func69 #[vs] ?_
 with_reducible refine (q_flags_calls E E k.sets w4 H4.out.set (by have := HS.out.set; omega) H4.out.lt).mono ?_
 rintro e w5 ⟨v5, rfl, h5, hb_⟩
 obtain ⟨A5, c5, rfl⟩ := h5.slice
 have M5 := Aside0.mk h5
 have L5 := Aside0.mk (L4.out.below hb_)
 have H5 := Aside0.mk (H4.out.below hb_)
 have B5 := Aside0.mk (B4.out.trans (hb_.mono B4.out.size))
 clear h5 hb_
 refine ⟨_, rfl, ?_⟩
 refine hK.out _ _ ⟨H5.out.c0, H5.out.c1, H5.out.c2, H5.out.c3, H5.out.c5⟩ (fun hHeld => ?_)
 clear hK K
 refine nz_ ?_
 refine oz_ 18 23 27 8388607 fun K hK => ?_
 refine gz_ Tryz.func67 #[vst] ?_
 with_reducible refine (q_list_calls E E k.ops w5 H5.out.stk (by have := HS.out.ops; omega) H5.out.lt).mono ?_
 rintro e w6 ⟨v6, rfl, h6, hb_⟩
 obtain ⟨A6, c6, rfl⟩ := h6.slice
 have O6 := Aside0.mk h6
 have M6 := Aside0.mk (M5.out.below hb_)
 have L6 := Aside0.mk (L5.out.below hb_)
 have H6 := Aside0.mk (H5.out.below hb_)
 have B6 := Aside0.mk (B5.out.trans (hb_.mono B5.out.size))
 clear h6 hb_
 refine ⟨_, rfl, ?_⟩
 refine hK.out _ _ ⟨H6.out.c0, H6.out.c1, H6.out.c2, H6.out.c3, H6.out.c5⟩ (fun hHeld => ?_)
 clear hK K
 refine nz_ ?_
 refine oz_ 23 28 27 16777215 fun K hK => ?_
 refine gz_ Tryz.func67 #[vr] ?_
 with_reducible refine (q_list_calls E E k.results w6 H6.out.res (by have := HS.out.res; omega) H6.out.lt).mono ?_
 rintro e w7 ⟨v7, rfl, h7, hb_⟩
 obtain ⟨A7, c7, rfl⟩ := h7.slice
 have P7 := Aside0.mk h7
 have O7 := Aside0.mk (O6.out.below hb_)
 have M7 := Aside0.mk (M6.out.below hb_)
 have L7 := Aside0.mk (L6.out.below hb_)
 have H7 := Aside0.mk (H6.out.below hb_)
 have B7 := Aside0.mk (B6.out.trans (hb_.mono B6.out.size))
 clear h7 hb_
 refine ⟨_, rfl, ?_⟩
 refine hK.out _ _ ⟨H7.out.c0, H7.out.c1, H7.out.c2, H7.out.c3, H7.out.c5⟩ (fun hHeld => ?_)
 clear hK K
 refine nz_ ?_
 refine pz_ 24 29 27 33554431 ?_
 refine oz_ 25 30 27 67108863 fun K hK => ?_
 refine vz_ ?_
 refine hK.out _ _ ⟨(H7.out.below ((Below.refl _ _).alloc (Nat.le_refl _) (.cells #[.slice Al nl cl, .slice A4 k.locals.length c4, .slice A5 k.sets.length c5, .slice A6 k.ops.length c6, .slice none 0 0, .slice A7 k.results.length c7] 64))).c0, (H7.out.below ((Below.refl _ _).alloc (Nat.le_refl _) (.cells #[.slice Al nl cl, .slice A4 k.locals.length c4, .slice A5 k.sets.length c5, .slice A6 k.ops.length c6, .slice none 0 0, .slice A7 k.results.length c7] 64))).c1, (H7.out.below ((Below.refl _ _).alloc (Nat.le_refl _) (.cells #[.slice Al nl cl, .slice A4 k.locals.length c4, .slice A5 k.sets.length c5, .slice A6 k.ops.length c6, .slice none 0 0, .slice A7 k.results.length c7] 64))).c2, (H7.out.below ((Below.refl _ _).alloc (Nat.le_refl _) (.cells #[.slice Al nl cl, .slice A4 k.locals.length c4, .slice A5 k.sets.length c5, .slice A6 k.ops.length c6, .slice none 0 0, .slice A7 k.results.length c7] 64))).c3, (H7.out.below ((Below.refl _ _).alloc (Nat.le_refl _) (.cells #[.slice Al nl cl, .slice A4 k.locals.length c4, .slice A5 k.sets.length c5, .slice A6 k.ops.length c6, .slice none 0 0, .slice A7 k.results.length c7] 64))).c5⟩ (fun hHeld => ?_)
 clear hK K
 refine nz_ ?_
 refine pz_ 26 3 27 134217727 ?_
 refine dz_ ?_

 obtain ⟨d2, hd2⟩ : ∃ d2, d2 = w7.heap.size := ⟨_, rfl⟩
 obtain ⟨w8, hw8⟩ : ∃ w8, w8 = w7.alloc (.cells #[.slice Al nl cl, .slice A4 k.locals.length c4, .slice A5 k.sets.length c5, .slice A6 k.ops.length c6, .slice none 0 0, .slice A7 k.results.length c7] 64) := ⟨_, rfl⟩
 have b8 : Below w7.heap.size w7 w8 := by rw [hw8]; exact bz_
 have C8 : Aside0 (QC E k w7 d2 (.slice Al nl cl) (.slice A4 k.locals.length c4) (.slice A5 k.sets.length c5) (.slice A6 k.ops.length c6) (.slice A7 k.results.length c7) (.slice none 0 0) 0 w8) := ⟨b8, by rw [hw8, hd2]; exact blk_new w7 _, Kd.N_nil _ _ _ _ _⟩
 have HD2 := Aside0.mk (Nat.le_of_eq hd2.symm)
 rw [← hd2, ← hw8]
 clear hd2 hw8 b8
 go_wp2_with fail
 go_loopw [4] (fun i W => ∃ (j : Nat) (vf : Value), i = .int .i64 j ∧ j ≤ m ∧ QC E k w7 d2 (.slice Al nl cl) (.slice A4 k.locals.length c4) (.slice A5 k.sets.length c5) (.slice A6 k.ops.length c6) (.slice A7 k.results.length c7) vf j W) (fun i _ => m - (intOf i).toNat)
 case atStart => exact ⟨0, _, rfl, Nat.zero_le _, C8.out⟩
 case round =>
  clear C8
  obtain ⟨j, vf, rfl, hj, hqc⟩ := hrel
  have C := Aside0.mk hqc
  have HW := Aside0.mk (H7.out.below hqc.bel)
  have c4' : wr.cell? ⟨d, 4, none⟩ = some (.slice Af m cf) := HW.out.c4
  by_cases hlt : j < m
  ·obtain ⟨x, hx⟩ : ∃ x, k.frames[j]? = some x := ⟨_, List.getElem?_eq_getElem (by have := HM.out; omega)⟩
   obtain ⟨ad, D1, e1, D2, e2, D4, e4, eA, hqa⟩ := qfr_at (H7.out.frs.bound hqc.bel rfl) hx
   subst eA
   obtain ⟨x0, x1, x2, x3, x4, x5, hfk⟩ := hqa
   obtain ⟨Aj, cj, ev⟩ := Kd.N_slice hqc.row
   have hlen : ((k.frames.take j).map Fr.q).length = j := by rw [List.length_map, List.length_take]; have := HM.out; omega
   rw [hlen] at ev
   subst ev
   have hbx := hqc.box
   have HX := Aside0.mk hx
   have HLT := Aside0.mk hlt
   have HLEN := Aside0.mk hlen
   have HFK := Aside0.mk hfk
   have HM2 := Aside0.mk hm2
   have hlt2 : (j : Int) < (m : Int) := by omega
   have hjj : j ≤ 4294967296 := by omega
   have NB : Aside0 (∀ y, (Value.slice Aj j cj).ownBlock = some y → w7.heap.size ≤ y) := ⟨Kd.N_base hqc.row⟩
   have hdd : d ≠ d2 := by have := H7.out.lt d H7.out.own; have := HD2.out; omega
   have HDD := Aside0.mk hdd
   have y4 : wr.cell? ⟨d2, 4, none⟩ = some (.slice Aj j cj) := (blk_cell hbx 4).trans rfl
   clear hx hqc hlen hfk hbx hdd
   go_wp2_with fail
   obtain ⟨w9, hw9⟩ : ∃ w9, World.drew wr = w9 := ⟨_, rfl⟩
   have b9 : Below wr.heap.size wr w9 := by rw [← hw9]; exact (Below.refl _ _).drew
   have C9 := Aside0.mk (C.out.below b9)
   have FK9 := Aside0.mk (Kd.FK_below HFK.out b9)
   have fx : ∀ {p : Addr} {u : Value}, wr.cell? p = some u → w9.cell? p = some u := fun h_ => b9.kp h_
   have g0 := fx c4'
   have g1 := fx y4
   have g2 := fx x0
   have g3 := fx x1
   have g4 := fx x2
   have g5 := fx x3
   have g6 := fx x4
   have g7 := fx x5
   clear fx b9 c4' y4 x0 x1 x2 x3 x4 x5
   refine start_ (n := 17) (S := fun w' => w'.cell? ⟨d, 4, none⟩ = some (.slice (some ad) m cf) ∧ w'.cell? ⟨d2, 4, none⟩ = some (.slice Aj j cj) ∧ w'.cell? (ad.add (j * 6)) = some (.int .i64 x.op) ∧ w'.cell? (⟨(ad.add (j * 6)).block, (ad.add (j * 6)).off + 1, none⟩) = some (.slice D1 x.ins.length e1) ∧ w'.cell? (⟨(ad.add (j * 6)).block, (ad.add (j * 6)).off + 2, none⟩) = some (.slice D2 x.outs.length e2) ∧ w'.cell? (⟨(ad.add (j * 6)).block, (ad.add (j * 6)).off + 3, none⟩) = some (.int .i64 x.height) ∧ w'.cell? (⟨(ad.add (j * 6)).block, (ad.add (j * 6)).off + 4, none⟩) = some (.slice D4 x.sets.length e4) ∧ w'.cell? (⟨(ad.add (j * 6)).block, (ad.add (j * 6)).off + 5, none⟩) = some (.bool x.dead)) (ds := [13, 16]) (bm_ 17 0) (by kernel_rfl) rfl rfl ⟨(by rw [hw9]; exact g0), (by rw [hw9]; exact g1), (by rw [hw9]; exact g2), (by rw [hw9]; exact g3), (by rw [hw9]; exact g4), (by rw [hw9]; exact g5), (by rw [hw9]; exact g6), (by rw [hw9]; exact g7)⟩ (fun hHeld => ?_)
   rw [hw9] at hHeld ⊢
   clear hw9 g0 g1 g2 g3 g4 g5 g6 g7
   refine pz_ 0 40 17 1 ?_
   refine pz_ 1 41 17 3 ?_
   refine pz_ 2 42 17 7 ?_
   refine pz_ 3 43 17 15 ?_
   refine pz_ 5 45 17 47 ?_
   refine pz_ 6 46 17 111 ?_
   refine pz_ 7 47 17 239 ?_
   refine pz_ 9 49 17 751 ?_
   refine tz_ 4 44 17 767 hHeld ?_
   refine tz_ 8 48 17 1023 hHeld ?_
   refine pz_ 10 50 17 2047 ?_
   refine tz_ 11 51 17 4095 hHeld ?_
   refine oz_ 12 52 17 8191 fun K hK => ?_
   refine vz_ ?_
   refine hK.out _ _ ⟨(((Below.refl _ _).alloc (Nat.le_refl _) (.cells #[.int .i64 x.op, .slice D1 x.ins.length e1, .slice D2 x.outs.length e2, .int .i64 x.height, .slice D4 x.sets.length e4, .bool x.dead] 139)).cell (World.block_lt_of_cell? _ _ hHeld.1)).trans hHeld.1, (((Below.refl _ _).alloc (Nat.le_refl _) (.cells #[.int .i64 x.op, .slice D1 x.ins.length e1, .slice D2 x.outs.length e2, .int .i64 x.height, .slice D4 x.sets.length e4, .bool x.dead] 139)).cell (World.block_lt_of_cell? _ _ hHeld.2.1)).trans hHeld.2.1, (((Below.refl _ _).alloc (Nat.le_refl _) (.cells #[.int .i64 x.op, .slice D1 x.ins.length e1, .slice D2 x.outs.length e2, .int .i64 x.height, .slice D4 x.sets.length e4, .bool x.dead] 139)).cell (World.block_lt_of_cell? _ _ hHeld.2.2.1)).trans hHeld.2.2.1, (((Below.refl _ _).alloc (Nat.le_refl _) (.cells #[.int .i64 x.op, .slice D1 x.ins.length e1, .slice D2 x.outs.length e2, .int .i64 x.height, .slice D4 x.sets.length e4, .bool x.dead] 139)).cell (World.block_lt_of_cell? _ _ hHeld.2.2.2.1)).trans hHeld.2.2.2.1, (((Below.refl _ _).alloc (Nat.le_refl _) (.cells #[.int .i64 x.op, .slice D1 x.ins.length e1, .slice D2 x.outs.length e2, .int .i64 x.height, .slice D4 x.sets.length e4, .bool x.dead] 139)).cell (World.block_lt_of_cell? _ _ hHeld.2.2.2.2.1)).trans hHeld.2.2.2.2.1, (((Below.refl _ _).alloc (Nat.le_refl _) (.cells #[.int .i64 x.op, .slice D1 x.ins.length e1, .slice D2 x.outs.length e2, .int .i64 x.height, .slice D4 x.sets.length e4, .bool x.dead] 139)).cell (World.block_lt_of_cell? _ _ hHeld.2.2.2.2.2.1)).trans hHeld.2.2.2.2.2.1, (((Below.refl _ _).alloc (Nat.le_refl _) (.cells #[.int .i64 x.op, .slice D1 x.ins.length e1, .slice D2 x.outs.length e2, .int .i64 x.height, .slice D4 x.sets.length e4, .bool x.dead] 139)).cell (World.block_lt_of_cell? _ _ hHeld.2.2.2.2.2.2.1)).trans hHeld.2.2.2.2.2.2.1, (((Below.refl _ _).alloc (Nat.le_refl _) (.cells #[.int .i64 x.op, .slice D1 x.ins.length e1, .slice D2 x.outs.length e2, .int .i64 x.height, .slice D4 x.sets.length e4, .bool x.dead] 139)).cell (World.block_lt_of_cell? _ _ hHeld.2.2.2.2.2.2.2)).trans hHeld.2.2.2.2.2.2.2⟩ (fun hHeld => ?_)
   clear hK K
   refine nz_ ?_
   refine lz_ 13 53 17 16383 fun K hK => ?_
   refine Kd.N_append_step k139 (w0 := w7) w7.heap.size (by rfl) (.tmp 44) (.tmp 52) 62 139 (.agg #[.int .i64 0, .slice none 0 0, .slice none 0 0, .int .i64 0, .slice none 0 0, .bool false]) 96 rfl Tryz.underlying62 info139 rfl (by decide) (by decide) (.slice Aj j cj) ((k.frames.take j).map Fr.q) x.q [.int .i64 x.op, .slice D1 x.ins.length e1, .slice D2 x.outs.length e2, .int .i64 x.height, .slice D4 x.sets.length e4, .bool x.dead] (fun y => ¬ E y ∧ y ≠ d2) (fun y => ¬ E y ∧ y < w7.heap.size) rfl rfl FK9.out (fun y hy => ⟨⟨hy.1, by have := hy.2; have := HD2.out; omega⟩, fun e => by have := NB.out y e.symm; have := hy.2; omega⟩) (fun y hy => ⟨fun e => by have := H7.out.lt y e; have := C9.out.bel.size; omega, fun e => by have := blk_lt C9.out.box; omega⟩) C9.out.row C9.out.bel C9.out.bel.size (by have := HLEN.out; have := HM2.out; have := HLT.out; omega) ?_
   intro v1 w10 hr1 hb1 hg1 _
   have C10 := Aside0.mk (C9.out.put HD2.out HX.out hr1 hb1 hg1)
   have hv_ : some d2 ≠ (Value.slice Aj j cj).ownBlock := Kd.N_ne C9.out.row C9.out.box (by decide)
   have BX10 := Aside0.mk ((hg1.block d2 (blk_lt C9.out.box) hv_).trans C9.out.box)
   obtain ⟨A1_, c1_, ev1⟩ := Kd.N_slice hr1
   rw [List.length_append, List.length_singleton, HLEN.out] at ev1
   subst ev1
   clear hr1 hb1 hg1 hv_
   refine hK.out _ _ ?_
   clear hK K
   refine nz_ ?_
   refine pz_ 14 54 17 32767 ?_
   refine pz_ 15 55 17 65535 ?_
   refine last_ (i := 16) (N := none) (bm_ 17 131071) rfl rfl (by kernel_rfl) (by decide) (fun K hK => ?_)
   have hs_ : w10.cell? ⟨d2, 4, none⟩ = some (.slice Aj j cj) := (blk_cell BX10.out 4).trans rfl
   have hfs_ : w10.frozen? ⟨d2, 4, none⟩ = false := blk_frozen BX10.out 4
   refine sz_ ?_
   refine hK.out _ _ ?_
   clear hK K
   refine dz_ ?_

   go_wp2_with fail
   go_roundw
   case rel => exact ⟨j + 1, .slice A1_ (j + 1) c1_, by go_num, HLT.out, C10.out⟩
   case measure => have := HLT.out; simp [intOf]; omega
  ·obtain rfl : j = m := by omega
   clear hlt hqc
   go_wp2_with fail
   go_ret
   have hfull : (k.frames.take j).map Fr.q = k.frames.map Fr.q := by rw [List.take_of_length_le (by have := HM.out; omega)]
   have hrow := C.out.row
   rw [hfull] at hrow
   have mv : ∀ {α : Type} {K : Kd α} {v : Value} {xs : List α}, LK K E w7 v xs → LK K (fun y => E y ∨ y = d2) wr v xs := fun h_ => h_.to (Chg.of_below C.out.bel (fun _ => False)) (fun _ e => e.elim) (fun x e => e.imp id (fun e => by rw [e]; exact HD2.out))
   have hlf : LK k139 (fun y => E y ∨ y = d2) wr vf (k.frames.map Fr.q) := by
    have h1 := Kd.N_V (base' := 0) hrow
    have h2 : Kd.V k139 0 wr 0 (fun y => ¬ E y ∧ y ≠ d2) vf (k.frames.map Fr.q) := h1
    exact Kd.V_mono h2 (fun y hy e => e.elim hy.1 hy.2)
   refine ⟨d2, rfl, Nat.le_trans B7.out.size HD2.out, ⟨_, _, _, _, _, _, C.out.box, mv H7.out.lst, mv L7.out, mv M7.out, mv O7.out, hlf, mv P7.out, .inr rfl, fun x e => e.elim (fun e => Nat.lt_of_lt_of_le (H7.out.lt x e) C.out.bel.size) (fun e => by rw [e]; exact blk_lt C.out.box), ?_⟩, B7.out.trans (C.out.bel.mono B7.out.size)⟩
   obtain ⟨B, b1, b2, b3⟩ := H7.out.tab
   exact ⟨B, fun x e => e.elim (b1 x) (fun e => by have := HD2.out; omega), Nat.le_trans b2 C.out.bel.size, b3.on ⟨C.out.bel.os, C.out.bel.tape, C.out.bel.output, C.out.bel.size, fun y hy => C.out.bel.block y (by omega)⟩⟩
end
section
variable {E : Nat → Prop} {d : Nat} {k : Chk} {w : World}
/-- The frames' length is not nought, in each spelling. -/
theorem RV.flen {vl vlo vs vst vf vr : Value} (h : RV E d k w vl vlo vs vst vf vr) (hn : 0 < k.frames.length) : ∃ Af cf m, vf = .slice Af m cf ∧ m = k.frames.length ∧ ((m : Int) == 0) = false ∧ (m == 0) = false ∧ decide (m = 0) = false := by
 obtain ⟨Af, cf, rfl⟩ := h.frs.slice
 exact ⟨Af, cf, _, rfl, List.length_map .., by rw [List.length_map]; exact beq_eq_false_iff_ne.mpr (by omega), by rw [List.length_map]; exact beq_eq_false_iff_ne.mpr (by omega), by rw [List.length_map]; exact decide_eq_false (by omega)⟩
theorem qPops_nil (h : R13 E d k w) (hs : Sml k) (hn : 0 < k.frames.length) (A : Option Addr) (c : Nat) : Calls Tryz.prog 48 #[.pointer (some ⟨d, 0, none⟩), .slice A 0 c] w fun e w' => e = .returned (.int .i64 0) ∧ Below w.heap.size w w' := by
 have K := qCopy_calls h hs
 obtain ⟨vl, vlo, vs, vst, vf, vr, hv⟩ := h
 obtain ⟨Af, cf, m, rfl, hm, h1, h2, h3⟩ := hv.flen hn
 have c4 := hv.c4
 clear hv hs hn hm
 go_enter Tryz.func48, Tryz.ntmps48
 go_wp2_with fail
 refine K.mono ?_
 rintro e w2 ⟨d2, rfl, _, _, hb⟩
 have B := Aside0.mk hb
 clear hb K c4 h1 h2 h3
 go_wp2_with fail
 refine wp_loop_rounds 1 ?_
 rw [rounds_succ]
 go_wp2_with fail
 go_ret
 exact ⟨rfl, B.out⟩
set_option maxHeartbeats 8000000 in
theorem qEnter_of (h : R13 E d k w) (k1 : Chk) (op : Int) {A1 A2 : Option Addr} {c1 c2 : Nat} {l1 l2 : List S39} (hs : Sml k1) (hn : 0 < k1.frames.length) (h1 : LK k39 E w (.slice A1 l1.length c1) l1) (h2 : LK k39 E w (.slice A2 l2.length c2) l2) (hl1 : l1.length ≤ 2147483648) (hl2 : l2.length ≤ 2147483648) (hmo : k1.ops.length ≤ 2147483646)
  (K1 : Calls Tryz.prog 48 #[.pointer (some ⟨d, 0, none⟩), .slice A1 l1.length c1] w (RQ E d k1 (.int .i64 0) w)) :
  Calls Tryz.prog 32 #[.pointer (some ⟨d, 0, none⟩), .int .i64 op, .slice A1 l1.length c1, .slice A2 l2.length c2] w (RQ E d { k1 with ops := k1.ops ++ l1, frames := k1.frames ++ [⟨op, l1, l2, k1.ops.length, k1.sets, false⟩] } (.int .i64 0) w) := by
 have H0 := Aside0.mk h.own
 have HS := Aside0.mk hs
 have HL := Aside0.mk (And.intro hl1 (And.intro hl2 hmo))
 have L1 := Aside0.mk h1
 have L2 := Aside0.mk h2
 have HNF := Aside0.mk hn
 obtain ⟨n1, hn1⟩ : ∃ n1, n1 = l1.length := ⟨_, rfl⟩
 obtain ⟨n2, hn2⟩ : ∃ n2, n2 = l2.length := ⟨_, rfl⟩
 rw [← hn1] at K1 L1 ⊢
 rw [← hn2] at L2 ⊢
 have HN := Aside0.mk (And.intro hn1 hn2)
 clear h hs hn h1 h2 hl1 hl2 hn1 hn2 hmo
 go_enter Tryz.func32, Tryz.ntmps32
 go_wp2_with fail
 refine K1.mono ?_
 rintro e w2 ⟨rfl, hr2, hc2⟩
 have M1 := Aside0.mk (L1.out.dstep H0.out hc2)
 have M2 := Aside0.mk (L2.out.dstep H0.out hc2)
 have C2 := Aside0.mk hc2
 obtain ⟨vl, vlo, vs, vst, vf, vr, hv⟩ := hr2
 obtain ⟨Af, cf, rfl⟩ := hv.frs.slice
 obtain ⟨Ast, cst, rfl⟩ := hv.stk.slice
 obtain ⟨m, hm⟩ : ∃ m, m = (k1.frames.map Fr.q).length := ⟨_, rfl⟩
 obtain ⟨no, hno⟩ : ∃ no, no = k1.ops.length := ⟨_, rfl⟩
 rw [← hm, ← hno] at hv
 have HM : Aside0 (m = k1.frames.length) := ⟨by rw [hm, List.length_map]⟩
 have HNO := Aside0.mk hno
 have hm2 : m ≤ 4294967296 := by rw [hm, List.length_map]; exact HS.out.frs
 have H2 := Aside0.mk hv
 clear hm hno hc2 hv K1
 go_wp2_with fail
 go_loopw [10, 11] (fun v i W => ∃ j : Nat, i = .int .i64 j ∧ j ≤ m ∧ Kd.N k139 139 W w2.heap.size (fun y => ¬ E y) v ((k1.frames.take j).map Fr.q) ∧ Below w2.heap.size w2 W) (fun _ i _ => m - (intOf i).toNat)
 case atStart => exact ⟨0, rfl, Nat.zero_le _, Kd.N_nil _ _ _ _ _, Below.refl _ _⟩
 case round =>
  obtain ⟨j, rfl, hj, hr, hb⟩ := hrel
  have R := Aside0.mk hr
  have B := Aside0.mk hb
  have c4' : wr.cell? ⟨d, 4, none⟩ = some (.slice Af m cf) := (H2.out.below hb).c4
  by_cases hlt : j < m
  ·obtain ⟨x, hx⟩ : ∃ x, k1.frames[j]? = some x := ⟨_, List.getElem?_eq_getElem (by have := HM.out; omega)⟩
   obtain ⟨ad, D1, e1, D2, e2, D4, e4, eA, hqa⟩ := qfr_at (H2.out.frs.bound hb rfl) hx
   subst eA
   obtain ⟨x0, x1, x2, x3, x4, x5, hfk⟩ := hqa
   obtain ⟨Aj, cj, ev⟩ := Kd.N_slice hr
   have hlen : ((k1.frames.take j).map Fr.q).length = j := by rw [List.length_map, List.length_take]; have := HM.out; omega
   rw [hlen] at ev
   subst ev
   have HX := Aside0.mk hx
   have HLT := Aside0.mk hlt
   have HLEN := Aside0.mk hlen
   have HFK := Aside0.mk hfk
   have HM2 := Aside0.mk hm2
   have hlt2 : (j : Int) < (m : Int) := by omega
   have hjj : j ≤ 4294967296 := by omega
   have NB : Aside0 (∀ y, (Value.slice Aj j cj).ownBlock = some y → w2.heap.size ≤ y) := ⟨Kd.N_base hr⟩
   clear hx hr hb hlen hfk
   go_wp2_with (at_builtin; refine Kd.N_append k139 (w0 := w2) w2.heap.size rfl (.tmp 27) (.tmp 35) 62 139 (.agg #[.int .i64 0, .slice none 0 0, .slice none 0 0, .int .i64 0, .slice none 0 0, .bool false]) 96 rfl Tryz.underlying62 info139 rfl (by decide) (by decide) (.slice Aj j cj) ((k1.frames.take j).map Fr.q) x.q [.int .i64 x.op, .slice D1 x.ins.length e1, .slice D2 x.outs.length e2, .int .i64 x.height, .slice D4 x.sets.length e4, .bool x.dead] (fun y => ¬ E y) (fun y => ¬ E y ∧ y < w2.heap.size) rfl rfl HFK.out (fun y hy => ⟨hy.1, fun e => by have := NB.out y e.symm; have := hy.2; omega⟩) (fun y hy e => by have := H2.out.lt y e; have := B.out.size; omega) R.out B.out B.out.size (by have := HLEN.out; have := HM2.out; have := HLT.out; omega) ?_; intro v1 w1 hr1 hb1 _ _; have R1 := Aside0.mk hr1; have B1 := Aside0.mk hb1; clear hr1 hb1)
   go_roundw
   case rel => exact ⟨j + 1, by go_num, HLT.out, by rw [List.take_add_one, HX.out, List.map_append]; exact R1.out, B1.out⟩
   case measure => have := HLT.out; simp [intOf]; omega
  ·obtain rfl : j = m := by omega
   clear hlt
   have hfull : (k1.frames.take j) = k1.frames := List.take_of_length_le (by have := HM.out; omega)
   rw [hfull] at hr
   obtain ⟨Ag, cg, ev⟩ := Kd.N_slice hr
   rw [List.length_map, ← HM.out] at ev
   subst ev
   have b3 : Below wr.heap.size wr wr.drew := (Below.refl _ _).drew
   have R3 := Aside0.mk (Kd.N_below hr b3)
   have H3 := Aside0.mk ((H2.out.below hb).below b3)
   have B3 := Aside0.mk (hb.trans (b3.mono hb.size))
   have X1 := Aside0.mk ((M1.out.below hb).below b3)
   have X2 := Aside0.mk ((M2.out.below hb).below b3)
   clear hr hb b3 hfull
   go_wp2_with fail
   obtain ⟨w3, hw3⟩ : ∃ w3, World.drew wr = w3 := ⟨_, rfl⟩
   rw [hw3] at R3 H3 B3 X1 X2
   have z2 : w3.cell? ⟨d, 2, none⟩ = some vs := H3.out.c2
   have z3 : w3.cell? ⟨d, 3, none⟩ = some (.slice Ast no cst) := H3.out.c3
   have z4 : w3.cell? ⟨d, 4, none⟩ = some (.slice Af j cf) := H3.out.c4
   refine start_ (n := 23) (S := fun w' => w'.cell? ⟨d, 2, none⟩ = some vs ∧ w'.cell? ⟨d, 3, none⟩ = some (.slice Ast no cst) ∧ w'.cell? ⟨d, 4, none⟩ = some (.slice Af j cf)) (ds := [19, 22]) (bm_ 23 0) (by kernel_rfl) rfl rfl ⟨(by rw [hw3]; exact z2), (by rw [hw3]; exact z3), (by rw [hw3]; exact z4)⟩ (fun hHeld => ?_)
   rw [hw3] at hHeld ⊢
   clear hw3 z2 z3 z4
   refine pz_ 0 37 23 1 ?_
   refine pz_ 1 38 23 3 ?_
   refine pz_ 2 39 23 7 ?_
   refine pz_ 3 40 23 15 ?_
   refine pz_ 5 42 23 47 ?_
   refine pz_ 7 44 23 175 ?_
   refine pz_ 8 45 23 431 ?_
   refine pz_ 9 46 23 943 ?_
   refine pz_ 12 49 23 5039 ?_
   refine pz_ 13 50 23 13231 ?_
   refine pz_ 14 51 23 29615 ?_
   refine tz_ 10 47 23 30639 hHeld ?_
   refine pz_ 11 48 23 32687 ?_
   refine tz_ 15 52 23 65455 hHeld ?_
   refine oz_ 4 41 23 65471 fun K hK => ?_
   refine gz_ Tryz.func67 #[.slice A1 n1 c1] ?_
   with_reducible refine (q_list_calls E (fun y => E y ∨ (Value.slice Ag j cg).ownBlock = some y) l1 w3 X1.out (by have := HL.out.1; omega) (fun y e => e.elim (H3.out.lt y) (fun e => Kd.N_lt R3.out y e))).mono ?_
   rintro e w4 ⟨v4, rfl, h4, hb_⟩
   obtain ⟨Aa, ca, rfl⟩ := h4.slice
   have I4 := Aside0.mk h4
   have X4 := Aside0.mk (X2.out.below hb_)
   have R4 := Aside0.mk (Kd.N_below R3.out hb_)
   have H4 := Aside0.mk (H3.out.below hb_)
   have B4 := Aside0.mk (B3.out.trans (hb_.mono B3.out.size))
   clear h4 hb_
   refine ⟨_, rfl, ?_⟩
   refine hK.out _ _ ⟨H4.out.c2, H4.out.c3, H4.out.c4⟩ (fun hHeld => ?_)
   clear hK K
   refine nz_ ?_
   refine oz_ 6 43 23 65535 fun K hK => ?_
   refine gz_ Tryz.func67 #[.slice A2 n2 c2] ?_
   with_reducible refine (q_list_calls E (fun y => E y ∨ (Value.slice Ag j cg).ownBlock = some y) l2 w4 X4.out (by have := HL.out.2.1; omega) (fun y e => e.elim (H4.out.lt y) (fun e => Kd.N_lt R4.out y e))).mono ?_
   rintro e w5 ⟨v5, rfl, h5, hb_⟩
   obtain ⟨Ab, cb, rfl⟩ := h5.slice
   have J5 := Aside0.mk h5
   have I5 := Aside0.mk (I4.out.below hb_)
   have R5 := Aside0.mk (Kd.N_below R4.out hb_)
   have H5 := Aside0.mk (H4.out.below hb_)
   have B5 := Aside0.mk (B4.out.trans (hb_.mono B4.out.size))
   clear h5 hb_
   refine ⟨_, rfl, ?_⟩
   refine hK.out _ _ ⟨H5.out.c2, H5.out.c3, H5.out.c4⟩ (fun hHeld => ?_)
   clear hK K
   refine nz_ ?_
   refine oz_ 16 53 23 131071 fun K hK => ?_
   refine gz_ Tryz.func69 #[vs] ?_
   with_reducible refine (q_flags_calls E (fun y => E y ∨ (Value.slice Ag j cg).ownBlock = some y) k1.sets w5 H5.out.set (by have := HS.out.set; omega) (fun y e => e.elim (H5.out.lt y) (fun e => Kd.N_lt R5.out y e))).mono ?_
   rintro e w6 ⟨v6, rfl, h6, hb_⟩
   obtain ⟨Ac, cc, rfl⟩ := h6.slice
   have S6 := Aside0.mk h6
   have J6 := Aside0.mk (J5.out.below hb_)
   have I6 := Aside0.mk (I5.out.below hb_)
   have R6 := Aside0.mk (Kd.N_below R5.out hb_)
   have H6 := Aside0.mk (H5.out.below hb_)
   have B6 := Aside0.mk (B5.out.trans (hb_.mono B5.out.size))
   clear h6 hb_
   refine ⟨_, rfl, ?_⟩
   refine hK.out _ _ ⟨H6.out.c2, H6.out.c3, H6.out.c4⟩ (fun hHeld => ?_)
   clear hK K
   refine nz_ ?_
   refine pz_ 17 54 23 262143 ?_
   refine oz_ 18 55 23 524287 fun K hK => ?_
   refine vz_ ?_
   refine hK.out _ _ ⟨(((Below.refl _ _).alloc (Nat.le_refl _) (.cells #[.int .i64 op, .slice Aa l1.length ca, .slice Ab l2.length cb, .int .i64 no, .slice Ac k1.sets.length cc, .bool false] 139)).cell (World.block_lt_of_cell? _ _ hHeld.1)).trans hHeld.1, (((Below.refl _ _).alloc (Nat.le_refl _) (.cells #[.int .i64 op, .slice Aa l1.length ca, .slice Ab l2.length cb, .int .i64 no, .slice Ac k1.sets.length cc, .bool false] 139)).cell (World.block_lt_of_cell? _ _ hHeld.2.1)).trans hHeld.2.1, (((Below.refl _ _).alloc (Nat.le_refl _) (.cells #[.int .i64 op, .slice Aa l1.length ca, .slice Ab l2.length cb, .int .i64 no, .slice Ac k1.sets.length cc, .bool false] 139)).cell (World.block_lt_of_cell? _ _ hHeld.2.2)).trans hHeld.2.2⟩ (fun hHeld => ?_)
   clear hK K
   refine nz_ ?_
   refine lz_ 19 56 23 1048575 fun K hK => ?_
   have mvE : ∀ y, (¬ (E y ∨ (Value.slice Ag j cg).ownBlock = some y)) → (¬ E y ∧ some y ≠ (Value.slice Ag j cg).ownBlock) := fun y hy => ⟨fun e => hy (.inl e), fun e => hy (.inr e.symm)⟩
   have FKN : Aside0 (Kd.FK k139 w6 (fun y => ¬ E y ∧ some y ≠ (Value.slice Ag j cg).ownBlock) (Fr.q ⟨op, l1, l2, no, k1.sets, false⟩) [.int .i64 op, .slice Aa l1.length ca, .slice Ab l2.length cb, .int .i64 no, .slice Ac k1.sets.length cc, .bool false]) := ⟨k139_mkF w6 _ (Fr.q ⟨op, l1, l2, no, k1.sets, false⟩) I6.out.reads.2.1 (Kd.F_mono I6.out.F mvE) J6.out.reads.2.1 (Kd.F_mono J6.out.F mvE) S6.out.reads.2.1 (Kd.F_mono S6.out.F mvE)⟩
   clear mvE
   refine Kd.N_append_step k139 (w0 := w2) w2.heap.size (by rfl) (.tmp 38) (.tmp 55) 62 139 (.agg #[.int .i64 0, .slice none 0 0, .slice none 0 0, .int .i64 0, .slice none 0 0, .bool false]) 96 rfl Tryz.underlying62 info139 rfl (by decide) (by decide) (.slice Ag j cg) (k1.frames.map Fr.q) (Fr.q ⟨op, l1, l2, no, k1.sets, false⟩) [.int .i64 op, .slice Aa l1.length ca, .slice Ab l2.length cb, .int .i64 no, .slice Ac k1.sets.length cc, .bool false] (fun y => ¬ E y) (fun y => ¬ E y ∧ some y ≠ (Value.slice Ag j cg).ownBlock) rfl rfl FKN.out (fun y hy => hy) (fun y hy e => by have := H6.out.lt y e; omega) R6.out B6.out B6.out.size (by rw [List.length_map, ← HM.out]; omega) ?_
   intro v1 w7 hr1 hb1 hg1 _
   have R7 := Aside0.mk hr1
   have B7 := Aside0.mk hb1
   have G7 := Aside0.mk (H2.out.below hb1)
   obtain ⟨A7, c7, ev1⟩ := Kd.N_slice hr1
   rw [List.length_append, List.length_singleton, List.length_map, ← HM.out] at ev1
   subst ev1
   clear hr1 hb1 hg1
   refine hK.out _ _ ?_
   clear hK K
   refine nz_ ?_
   refine pz_ 20 57 23 2097151 ?_
   refine pz_ 21 58 23 4194303 ?_
   refine last_ (i := 22) (N := none) (bm_ 23 8388607) rfl rfl (by kernel_rfl) (by decide) (fun K hK => ?_)
   have hs_ : w7.cell? ⟨d, 4, none⟩ = some (.slice Af j cf) := G7.out.c4
   have hfs_ : w7.frozen? ⟨d, 4, none⟩ = false := blk_frozen G7.out.box 4
   refine sz_ ?_
   refine hK.out _ _ ?_
   clear hK K
   refine dz_ ?_

   have hlf : LK k139 E w7 (.slice A7 (j + 1) c7) ((k1.frames ++ [(⟨op, l1, l2, no, k1.sets, false⟩ : Fr)]).map Fr.q) := by
    rw [List.map_append]
    have h1 := Kd.N_V (base' := 0) R7.out
    have h2 : Kd.V k139 0 w7 0 (fun y => ¬ E y) (.slice A7 (j + 1) c7) (k1.frames.map Fr.q ++ [Fr.q ⟨op, l1, l2, no, k1.sets, false⟩]) := h1
    exact h2
   have S8 := Aside0.mk (G7.out.frames hlf)
   have C8 : Aside0 (Chg (fun x => x = d) w2 (w7.setCell ⟨d, 4, none⟩ (.slice A7 (j + 1) c7))) := ⟨(Chg.of_below B7.out (fun _ => False)).trans (chg_set w7 d 4 _) (fun _ e => e.elim) (fun _ e => .inl e)⟩
   obtain ⟨w8, hw8⟩ : ∃ w8, w8 = w7.setCell ⟨d, 4, none⟩ (.slice A7 (j + 1) c7) := ⟨_, rfl⟩
   rw [← hw8] at S8 C8 ⊢
   have L8 := M1.out.dstep H0.out C8.out
   have hr8 : R13 E d _ w8 := ⟨_, _, _, _, _, _, S8.out⟩
   have K2 := qPushes_calls hr8 (A := A1) (c := c1) (l := l1) (by rw [← HN.out.1]; exact L8) (by dsimp only; rw [List.length_append]; have := HNF.out; omega) (by have := HL.out; dsimp only; omega)
   rw [← HN.out.1] at K2
   clear hw8 L8 hlf c4' hr8
   go_wp2_with fail
   refine K2.mono ?_
   rintro e w9 ⟨rfl, h9, hc9⟩
   have Q9 := Aside0.mk h9
   have C9 := Aside0.mk ((C2.out.trans C8.out (fun _ e => .inl e) (fun _ e => .inl e)).trans hc9 (fun _ e => .inl e) (fun _ e => .inl e))
   clear h9 hc9 K2
   go_wp2_with fail
   go_ret
   exact ⟨rfl, by have h_ := Q9.out; rw [HNO.out] at h_; exact h_, C9.out⟩
theorem qEnter_nil (h : R13 E d k w) (op : Int) {A2 : Option Addr} {c2 : Nat} {l2 : List S39} (hs : Sml k) (hn : 0 < k.frames.length) (h2 : LK k39 E w (.slice A2 l2.length c2) l2) (hl2 : l2.length ≤ 2147483648) (hmo : k.ops.length ≤ 2147483646) :
  Calls Tryz.prog 32 #[.pointer (some ⟨d, 0, none⟩), .int .i64 op, .slice none 0 0, .slice A2 l2.length c2] w (RQ E d { k with frames := k.frames ++ [⟨op, [], l2, k.ops.length, k.sets, false⟩] } (.int .i64 0) w) := by
 have K := qEnter_of (A1 := none) (c1 := 0) (l1 := []) h k op hs hn (LK.nil k39 E w) h2 (Nat.zero_le _) hl2 hmo ((qPops_nil h hs hn none 0).mono (fun e w' ⟨e1, hb⟩ => ⟨e1, h.below hb, Chg.of_below hb _⟩))
 have e : k.ops ++ ([] : List S39) = k.ops := List.append_nil _
 rw [e] at K
 exact K
end
/-- A row of one frame. -/
theorem lk_qlit {S : Nat → Prop} (W : World) (f : Fr) (cs : List Value) (hl : cs.length = 6) (hoc : ∀ u, u ∈ cs → u.oneCell' = true) (hf : Kd.FK k139 (W.alloc (.cells cs.toArray 139)) (fun y => ¬ S y) f.q cs) (hS : ∀ y, S y → y < W.heap.size) : LK k139 S (W.alloc (.cells cs.toArray 139)) (.slice (some ⟨W.heap.size, 0, none⟩) 1 1) ([f].map Fr.q) := by
 have h1 : (Kd.raw 6).R 139 (W.alloc (.cells cs.toArray 139)) W.heap.size (fun _ => True) (.slice (some ⟨W.heap.size, 0, none⟩) 1 1) [cs] :=
  ⟨fun _ _ => trivial, OwnRow.lit (ps := [cs]) W W.heap.size (inner := cs) ((Reps.none _ _).snoc ⟨rfl, hl, hoc⟩ hl) (Nat.le_refl _) (by simp)⟩
 refine lk_of_rows (d := k139) (rows := [cs]) rfl h1 (fun j x c hx hc => ?_) hS
 match j with
 | 0 =>
  simp only [List.map_cons, List.getElem?_cons_zero, Option.some.injEq] at hx hc
  rw [← hx, ← hc]
  exact hf
 | j + 1 => simp at hx
/-- What stands in the new box while the locals are gone through; w2: the world ahead of the box. -/
structure QW (w2 : World) (vl vr vlo vs : Value) (locs : List S39) (sets : List Bool) (W : World) : Prop where
 bel : Below w2.heap.size w2 W
 box : W.heap[w2.heap.size]? = some (.cells #[vl, vlo, vs, .slice none 0 0, .slice none 0 0, vr] 64 (0, 0))
 loc : Kd.R k39 39 W w2.heap.size (fun _ => True) vlo locs
 set : Kd.R Kd.bool 4 W w2.heap.size (fun _ => True) vs sets
section
variable {w2 : World} {vl vr vlo vs v1 : Value} {locs : List S39} {sets : List Bool} {W W1 : World}
theorem QW.below (h : QW w2 vl vr vlo vs locs sets W) (hb : Below W.heap.size W W1) : QW w2 vl vr vlo vs locs sets W1 :=
 ⟨h.bel.trans (hb.mono h.bel.size), blk_below h.box hb, Kd.R_below h.loc hb, Kd.R_below h.set hb⟩
theorem QW.putl {x : S39} (h : QW w2 vl vr vlo vs locs sets W) (hr : Kd.R k39 39 W1 w2.heap.size (fun _ => True) v1 (locs ++ [x])) (hb : Below w2.heap.size w2 W1) (hg : W.grownBy W1 vlo.ownBlock) : QW w2 vl vr v1 vs (locs ++ [x]) sets (W1.setCell ⟨w2.heap.size, 1, none⟩ v1) := by
 have b1 : W1.heap[w2.heap.size]? = some (.cells #[vl, vlo, vs, .slice none 0 0, .slice none 0 0, vr] 64 (0, 0)) := (hg.block _ (blk_lt h.box) (Kd.R_ne h.loc h.box (by decide))).trans h.box
 refine ⟨hb.setCell (p := ⟨w2.heap.size, 1, none⟩) (Nat.le_refl _) _, by rw [blk_set b1]; simp, Kd.R_set hr b1 (by decide) 1 v1, Kd.R_set (Kd.R_over h.set h.loc (by decide) hg) b1 (by decide) 1 v1⟩
theorem QW.puts {x : Bool} (h : QW w2 vl vr vlo vs locs sets W) (hr : Kd.R Kd.bool 4 W1 w2.heap.size (fun _ => True) v1 (sets ++ [x])) (hb : Below w2.heap.size w2 W1) (hg : W.grownBy W1 vs.ownBlock) : QW w2 vl vr vlo v1 locs (sets ++ [x]) (W1.setCell ⟨w2.heap.size, 2, none⟩ v1) := by
 have b1 : W1.heap[w2.heap.size]? = some (.cells #[vl, vlo, vs, .slice none 0 0, .slice none 0 0, vr] 64 (0, 0)) := (hg.block _ (blk_lt h.box) (Kd.R_ne h.set h.box (by decide))).trans h.box
 refine ⟨hb.setCell (p := ⟨w2.heap.size, 2, none⟩) (Nat.le_refl _) _, by rw [blk_set b1]; simp, Kd.R_set (Kd.R_over h.loc h.set (by decide) hg) b1 (by decide) 2 v1, Kd.R_set hr b1 (by decide) 2 v1⟩
theorem lk_of_R {α : Type} {d : Kd α} {e : Nat} {W : World} {b g t : Nat} {v : Value} {xs : List α} {cells : Array Value} {D : Nat → Prop} (h : d.R e W b (fun _ => True) v xs) (hb : W.heap[g]? = some (.cells cells t (0, 0))) (ht : ∀ q, q ∈ e :: d.E → q ≠ t) (hD : ∀ y, D y → y < b) : LK d (fun y => D y ∨ y = g) W v xs := by
 have h1 := Kd.R_V (base' := 0) (Kd.R_bound (Kd.R_types h hb ht))
 refine Kd.V_mono (show Kd.V d 0 W 0 _ v xs from h1) (fun k hk e => ?_)
 exact e.elim (fun e => by have := hD k e; have := hk.2.1; omega) (fun e => hk.1.2 e)
theorem QW.done {D : Nat → Prop} {w2' : World} {l : List S132} {res : List S39} (h : QW w2 vl vr vlo vs locs sets W) (h0 : LK k132 D w2 vl l) (h1 : LK k39 D w2 vr res) (hD : ∀ y, D y → y < w2.heap.size) (B : Nat) (hB : ∀ y, D y → B ≤ y) (hB2 : B ≤ w2.heap.size) (htb : Lib.TabBelow Tryz.prog B w2 "internal/strconv.uint64pow10" .u64 Lib.pow10Tab) :
  RV (fun y => D y ∨ y = w2.heap.size) w2.heap.size ⟨l, locs, sets, res, [], []⟩ W vl vlo vs (.slice none 0 0) (.slice none 0 0) vr := by
 have mv : ∀ {α : Type} {K : Kd α} {v : Value} {xs : List α}, LK K D w2 v xs → LK K (fun y => D y ∨ y = w2.heap.size) W v xs := fun h_ => h_.to (Chg.of_below h.bel (fun _ => False)) (fun _ e => e.elim) (fun x e => e.imp id (fun e => by rw [e]; exact Nat.le_refl _))
 refine ⟨h.box, mv h0, lk_of_R h.loc h.box (by decide) hD, lk_of_R h.set h.box (by decide) hD, LK.nil _ _ _, LK.nil _ _ _, mv h1, .inr rfl, fun x e => e.elim (fun e => Nat.lt_of_lt_of_le (hD x e) h.bel.size) (fun e => by rw [e]; exact blk_lt h.box), B, fun x e => e.elim (hB x) (fun e => by rw [e]; exact hB2), Nat.le_trans hB2 h.bel.size, htb.on ⟨h.bel.os, h.bel.tape, h.bel.output, h.bel.size, fun k hk => h.bel.block k (by omega)⟩⟩
end
/-- What New answers. -/
def QNewOut (D : Nat → Prop) (k : Chk) (w : World) (e : Ending) (w' : World) : Prop := ∃ g, e = .returned (.pointer (some ⟨g, 0, none⟩)) ∧ w.heap.size ≤ g ∧ R13 (fun y => D y ∨ y = g) g k w' ∧ Below w.heap.size w w'
set_option maxHeartbeats 16000000 in
theorem qNew_calls (D : Nat → Prop) (A : Option Addr) (c : Nat) (l : List S132) (A1 : Option Addr) (c1 : Nat) (ps : List S39) (A2 : Option Addr) (c2 : Nat) (ls : List S39) (A3 : Option Addr) (c3 : Nat) (rs : List S39) (w : World) (h : LK k132 D w (.slice A l.length c) l) (h1 : LK k39 D w (.slice A1 ps.length c1) ps) (h2 : LK k39 D w (.slice A2 ls.length c2) ls) (h3 : LK k39 D w (.slice A3 rs.length c3) rs) (hD : ∀ y, D y → y < w.heap.size) (hp : ps.length ≤ 1048576) (hll : ls.length ≤ 1048576) (hrl : rs.length ≤ 1048576)
  (B : Nat) (hB : ∀ y, D y → B ≤ y) (hB2 : B ≤ w.heap.size) (htb : Lib.TabBelow Tryz.prog B w "internal/strconv.uint64pow10" .u64 Lib.pow10Tab) :
  Calls Tryz.prog 30 #[.slice A l.length c, .slice A1 ps.length c1, .slice A2 ls.length c2, .slice A3 rs.length c3] w (QNewOut D ⟨l, ps ++ ls, setsM ps.length (ps ++ ls), rs, [], [⟨2, [], rs, 0, setsM ps.length (ps ++ ls), false⟩]⟩ w) := by
 have K0 := q_list_calls D D rs w h3 (by omega) hD
 obtain ⟨n0, hn0⟩ : ∃ n0, n0 = l.length := ⟨_, rfl⟩
 obtain ⟨n1, hn1⟩ : ∃ n1, n1 = ps.length := ⟨_, rfl⟩
 obtain ⟨n2, hn2⟩ : ∃ n2, n2 = ls.length := ⟨_, rfl⟩
 obtain ⟨n3, hn3⟩ : ∃ n3, n3 = rs.length := ⟨_, rfl⟩
 obtain ⟨loc, hloc⟩ : ∃ loc, loc = ps ++ ls := ⟨_, rfl⟩
 rw [← hn3] at K0
 have HH := Aside0.mk (And.intro h (And.intro h1 (And.intro h2 h3)))
 have HD := Aside0.mk hD
 have HL := Aside0.mk (And.intro hp (And.intro hll hrl))
 have HN := Aside0.mk (And.intro hn1 (And.intro hn2 (And.intro hn3 hn0)))
 have HB := Aside0.mk (And.intro hB (And.intro hB2 htb))
 have HLOC := Aside0.mk hloc
 rw [← hloc]
 rw [← hn0, ← hn1, ← hn2, ← hn3]
 have hb1 : n1 ≤ 1048576 := by omega
 have hb2 : n2 ≤ 1048576 := by omega
 clear h h1 h2 h3 hD hp hll hrl hn0 hn1 hn2 hn3 hB hB2 htb hloc
 go_enter Tryz.func30, Tryz.ntmps30
 go_wp2_with fail
 refine K0.mono ?_
 rintro e w2 ⟨vr, rfl, hkr, hbw⟩
 have B2 := Aside0.mk hbw
 obtain ⟨Ar, cr, rfl⟩ := hkr.slice
 rw [← HN.out.2.2.1] at hkr ⊢
 have KR := Aside0.mk hkr
 obtain ⟨G, hG⟩ : ∃ G, G = w2.heap.size := ⟨_, rfl⟩
 obtain ⟨w3, hw3⟩ : ∃ w3, w3 = w2.alloc (.cells #[.slice A n0 c, .slice none 0 0, .slice none 0 0, .slice none 0 0, .slice none 0 0, .slice Ar n3 cr] 64) := ⟨_, rfl⟩
 have N3 : Aside0 (QW w2 (.slice A n0 c) (.slice Ar n3 cr) (.slice none 0 0) (.slice none 0 0) [] [] w3) := ⟨by rw [hw3]; exact bz_, by rw [hw3]; exact blk_new w2 _, Kd.R_nil _ _ _ _ _, Kd.R_nil _ _ _ _ _⟩
 clear hkr hbw K0
 go_wp2_with fail
 rw [← hG, ← hw3]
 clear hw3
 have HG := Aside0.mk hG
 clear hG
 have HDL : Aside0 (loc.length = n1 + n2) := ⟨by rw [HLOC.out, List.length_append, ← HN.out.1, ← HN.out.2.1]⟩
 go_loopw [10] (fun i W => ∃ (j : Nat) (vlo vs : Value), i = .int .i64 j ∧ j ≤ n1 ∧ QW w2 (.slice A n0 c) (.slice Ar n3 cr) vlo vs (loc.take j) ((setsM n1 loc).take j) W) (fun i _ => n1 - (intOf i).toNat)
 case atStart => exact ⟨0, _, _, rfl, Nat.zero_le _, N3.out⟩
 case round =>
  clear N3
  obtain ⟨j, vlo, vs, rfl, hj, hqw⟩ := hrel
  have N1 := Aside0.mk hqw
  by_cases hlt : j < n1
  ·obtain ⟨x, hx⟩ : ∃ x, ps[j]? = some x := ⟨_, List.getElem?_eq_getElem (by rw [← HN.out.1]; exact hlt)⟩
   have hxl : loc[j]? = some x := by rw [HLOC.out, List.getElem?_append_left (by rw [← HN.out.1]; exact hlt)]; exact hx
   have HSX : Aside0 ((setsM n1 loc)[j]? = some true) := ⟨by rw [setsM_get n1 hxl]; simp [hlt]⟩
   have HX := Aside0.mk hxl
   have bw := B2.out.trans (hqw.bel.mono B2.out.size)
   obtain ⟨ad, eA, x0, x1, x2⟩ := vt_at ((HH.out.2.1.below bw).reads.2.2) hx
   subst eA
   obtain ⟨Aj, cj, ev⟩ := Kd.R_slice hqw.loc
   have hlen : (loc.take (j)).length = j := by rw [List.length_take]; have := HDL.out; omega
   rw [hlen] at ev
   subst ev
   have HLEN := Aside0.mk hlen
   have HLT := Aside0.mk hlt
   have HLT2 : Aside0 (j ≤ 4194304) := ⟨by omega⟩
   have hlt2 : (j : Int) < (n1 : Int) := by omega
   have hjj : j ≤ 1048576 := by omega
   have BX := hqw.box
   rw [← HG.out] at BX
   have y1 : wr.cell? ⟨G, 1, none⟩ = some (.slice Aj (j) cj) := (blk_cell BX 1).trans rfl
   clear hx hxl hqw hlen BX bw
   go_wp2_with fail
   obtain ⟨w9, hw9⟩ : ∃ w9, World.drew wr = w9 := ⟨_, rfl⟩
   have b9 : Below wr.heap.size wr w9 := by rw [← hw9]; exact (Below.refl _ _).drew
   have N9 := Aside0.mk (N1.out.below b9)
   have fx : ∀ {p : Addr} {u : Value}, wr.cell? p = some u → w9.cell? p = some u := fun h_ => b9.kp h_
   have g0 := fx y1
   have g1 := fx x0
   have g2 := fx x1
   have g3 := fx x2
   clear fx b9 y1 x0 x1 x2
   refine start_ (n := 14) (S := fun w' => w'.cell? ⟨G, 1, none⟩ = some (.slice Aj (j) cj) ∧ w'.cell? (ad.add (j * 3)) = some (.int .i64 x.f0) ∧ w'.cell? (⟨(ad.add (j * 3)).block, (ad.add (j * 3)).off + 1, none⟩) = some (.bool x.f1) ∧ w'.cell? (⟨(ad.add (j * 3)).block, (ad.add (j * 3)).off + 2, none⟩) = some (.int .i64 x.f2)) (ds := [10, 13]) (bm_ 14 0) (by kernel_rfl) rfl rfl ⟨(by rw [hw9]; exact g0), (by rw [hw9]; exact g1), (by rw [hw9]; exact g2), (by rw [hw9]; exact g3)⟩ (fun hHeld => ?_)
   rw [hw9] at hHeld ⊢
   clear hw9 g0 g1 g2 g3
   refine pz_ 0 23 14 1 ?_
   refine pz_ 1 24 14 3 ?_
   refine pz_ 2 25 14 7 ?_
   refine pz_ 3 26 14 15 ?_
   refine pz_ 5 28 14 47 ?_
   refine pz_ 6 29 14 111 ?_
   refine pz_ 7 30 14 239 ?_
   refine tz_ 4 27 14 255 hHeld ?_
   refine tz_ 8 31 14 511 hHeld ?_
   refine oz_ 9 32 14 1023 fun K hK => ?_
   refine vz_ ?_
   refine hK.out _ _ ⟨(((Below.refl _ _).alloc (Nat.le_refl _) (.cells #[.int .i64 x.f0, .bool x.f1, .int .i64 x.f2] 39)).cell (World.block_lt_of_cell? _ _ hHeld.1)).trans hHeld.1, (((Below.refl _ _).alloc (Nat.le_refl _) (.cells #[.int .i64 x.f0, .bool x.f1, .int .i64 x.f2] 39)).cell (World.block_lt_of_cell? _ _ hHeld.2.1)).trans hHeld.2.1, (((Below.refl _ _).alloc (Nat.le_refl _) (.cells #[.int .i64 x.f0, .bool x.f1, .int .i64 x.f2] 39)).cell (World.block_lt_of_cell? _ _ hHeld.2.2.1)).trans hHeld.2.2.1, (((Below.refl _ _).alloc (Nat.le_refl _) (.cells #[.int .i64 x.f0, .bool x.f1, .int .i64 x.f2] 39)).cell (World.block_lt_of_cell? _ _ hHeld.2.2.2)).trans hHeld.2.2.2⟩ (fun hHeld => ?_)
   clear hK K
   refine nz_ ?_
   refine lz_ 10 33 14 2047 fun K hK => ?_
   refine Kd.R_append_step k39 (w0 := w2) w2.heap.size (by rfl) (.tmp 27) (.tmp 32) 27 39 (.agg #[.int .i64 0, .bool false, .int .i64 0]) 24 rfl Tryz.underlying27 info39 rfl (by decide) (by decide) (.slice Aj (j) cj) (loc.take (j)) x [.int .i64 x.f0, .bool x.f1, .int .i64 x.f2] (fun _ => True) (fun _ => False) rfl rfl (k39_mkM _ _ _ x) (fun _ hk => hk.elim) (fun _ _ => trivial) N9.out.loc N9.out.bel N9.out.bel.size (by rw [HLEN.out]; have := HLT2.out; omega) ?_
   intro v1 w10 hr1 hb1 hg1 _
   have NA := Aside0.mk (N9.out.putl hr1 hb1 hg1)
   have BX10 := Aside0.mk ((hg1.block _ (blk_lt N9.out.box) (Kd.R_ne N9.out.loc N9.out.box (by decide))).trans N9.out.box)
   obtain ⟨A1_, c1_, ev1⟩ := Kd.R_slice hr1
   rw [List.length_append, List.length_singleton, HLEN.out] at ev1
   subst ev1
   clear hr1 hb1 hg1
   rw [← HG.out] at NA BX10
   refine hK.out _ _ ?_
   clear hK K
   refine nz_ ?_
   refine pz_ 11 34 14 4095 ?_
   refine pz_ 12 35 14 8191 ?_
   refine last_ (i := 13) (N := none) (bm_ 14 16383) rfl rfl (by kernel_rfl) (by decide) (fun K hK => ?_)
   have hs_ : w10.cell? ⟨G, 1, none⟩ = some (.slice Aj (j) cj) := (blk_cell BX10.out 1).trans rfl
   have hfs_ : w10.frozen? ⟨G, 1, none⟩ = false := blk_frozen BX10.out 1
   refine sz_ ?_
   refine hK.out _ _ ?_
   clear hK K
   refine dz_ ?_

   obtain ⟨w11, hw11⟩ : ∃ w11, w11 = w10.setCell ⟨G, 1, none⟩ (.slice A1_ (j + 1) c1_) := ⟨_, rfl⟩
   rw [← hw11] at NA ⊢
   clear hw11 BX10
   obtain ⟨As, cs, evs⟩ := Kd.R_slice NA.out.set
   have hlen2 : ((setsM n1 loc).take (j)).length = j := by rw [List.length_take, setsM_length]; have := HDL.out; have := HLT.out; omega
   rw [hlen2] at evs
   subst evs
   have HLEN2 := Aside0.mk hlen2
   have BX2 := NA.out.box
   rw [← HG.out] at BX2
   have y2 : w11.cell? ⟨G, 2, none⟩ = some (.slice As (j) cs) := (blk_cell BX2 2).trans rfl
   have BX2 := Aside0.mk BX2
   clear hlen2
   go_wp2_with (at_builtin; refine Kd.R_append Kd.bool (w0 := w2) w2.heap.size rfl (.tmp 40) (.tmp 41) 28 4 (.bool false) 1 rfl Tryz.underlying28 info4 rfl (by decide) (by decide) (.slice As (j) cs) ((setsM n1 loc).take (j)) (true) [.bool (true)] (fun _ => True) (fun _ => False) rfl rfl rfl (fun _ hk => hk.elim) (fun _ _ => trivial) NA.out.set NA.out.bel NA.out.bel.size (by rw [HLEN2.out]; have := HLT2.out; omega) ?_; intro v1 w12 hr1 hb1 hg1 _; have NB := Aside0.mk (NA.out.puts hr1 hb1 hg1); have BX12 := Aside0.mk ((hg1.block _ (blk_lt NA.out.box) (Kd.R_ne NA.out.set NA.out.box (by decide))).trans NA.out.box); obtain ⟨A2_, c2_, ev1⟩ := Kd.R_slice hr1; rw [List.length_append, List.length_singleton, HLEN2.out] at ev1; subst ev1; clear hr1 hb1 hg1; rw [← HG.out] at NB BX12; have hs_ : w12.cell? ⟨G, 2, none⟩ = some (.slice As j cs) := (blk_cell BX12.out 2).trans rfl; have hfs_ : w12.frozen? ⟨G, 2, none⟩ = false := blk_frozen BX12.out 2)
   go_roundw
   case rel => exact ⟨j + 1, .slice A1_ (j + 1) c1_, .slice A2_ (j + 1) c2_, by go_num, HLT.out, by have h_ := NB.out; rw [List.take_add_one, HX.out, List.take_add_one, HSX.out]; exact h_⟩
   case measure => have := HLT.out; simp [intOf]; omega
  ·obtain rfl : j = n1 := by omega
   clear hlt hqw
   go_wp2_with fail
   go_loopw [11] (fun i W => ∃ (j2 : Nat) (vlo vs : Value), i = .int .i64 j2 ∧ j2 ≤ n2 ∧ QW w2 (.slice A n0 c) (.slice Ar n3 cr) vlo vs (loc.take (j + j2)) ((setsM j loc).take (j + j2)) W) (fun i _ => n2 - (intOf i).toNat)
   case atStart => exact ⟨0, _, _, rfl, Nat.zero_le _, N1.out⟩
   case round =>
    clear N1
    obtain ⟨j2, vlo, vs, rfl, hj2, hqw⟩ := hrel
    have N1 := Aside0.mk hqw
    by_cases hlt : j2 < n2
    ·obtain ⟨x, hx⟩ : ∃ x, ls[j2]? = some x := ⟨_, List.getElem?_eq_getElem (by rw [← HN.out.2.1]; exact hlt)⟩
     have hxl : loc[j + j2]? = some x := by rw [HLOC.out, List.getElem?_append_right (by rw [← HN.out.1]; omega), ← HN.out.1, Nat.add_sub_cancel_left]; exact hx
     have HSX : Aside0 ((setsM j loc)[j + j2]? = some (defM x)) := ⟨(setsM_get j hxl).trans (by rw [decide_eq_false (by omega : ¬ (j + j2 < j)), Bool.false_or])⟩
     have HX := Aside0.mk hxl
     have bw := B2.out.trans (hqw.bel.mono B2.out.size)
     obtain ⟨ad, eA, x0, x1, x2⟩ := vt_at ((HH.out.2.2.1.below bw).reads.2.2) hx
     subst eA
     have HXL := Aside0.mk hx
     obtain ⟨Aj, cj, ev⟩ := Kd.R_slice hqw.loc
     have hlen : (loc.take (j + j2)).length = j + j2 := by rw [List.length_take]; have := HDL.out; omega
     rw [hlen] at ev
     subst ev
     have HLEN := Aside0.mk hlen
     have HLT := Aside0.mk hlt
     have HLT2 : Aside0 (j + j2 ≤ 4194304) := ⟨by omega⟩
     have hlt2 : (j2 : Int) < (n2 : Int) := by omega
     have hjj : j2 ≤ 1048576 := by omega
     have BX := hqw.box
     rw [← HG.out] at BX
     have y1 : wr.cell? ⟨G, 1, none⟩ = some (.slice Aj (j + j2) cj) := (blk_cell BX 1).trans rfl
     clear hx hxl hqw hlen BX bw
     go_wp2_with fail
     obtain ⟨w9, hw9⟩ : ∃ w9, World.drew wr = w9 := ⟨_, rfl⟩
     have b9 : Below wr.heap.size wr w9 := by rw [← hw9]; exact (Below.refl _ _).drew
     have N9 := Aside0.mk (N1.out.below b9)
     have fx : ∀ {p : Addr} {u : Value}, wr.cell? p = some u → w9.cell? p = some u := fun h_ => b9.kp h_
     have g0 := fx y1
     have g1 := fx x0
     have g2 := fx x1
     have g3 := fx x2
     clear fx b9 y1
     refine start_ (n := 14) (S := fun w' => w'.cell? ⟨G, 1, none⟩ = some (.slice Aj (j + j2) cj) ∧ w'.cell? (ad.add (j2 * 3)) = some (.int .i64 x.f0) ∧ w'.cell? (⟨(ad.add (j2 * 3)).block, (ad.add (j2 * 3)).off + 1, none⟩) = some (.bool x.f1) ∧ w'.cell? (⟨(ad.add (j2 * 3)).block, (ad.add (j2 * 3)).off + 2, none⟩) = some (.int .i64 x.f2)) (ds := [10, 13]) (bm_ 14 0) (by kernel_rfl) rfl rfl ⟨(by rw [hw9]; exact g0), (by rw [hw9]; exact g1), (by rw [hw9]; exact g2), (by rw [hw9]; exact g3)⟩ (fun hHeld => ?_)
     rw [hw9] at hHeld ⊢
     clear hw9 g0 g1 g2 g3
     refine pz_ 0 51 14 1 ?_
     refine pz_ 1 52 14 3 ?_
     refine pz_ 2 53 14 7 ?_
     refine pz_ 3 54 14 15 ?_
     refine pz_ 5 56 14 47 ?_
     refine pz_ 6 57 14 111 ?_
     refine pz_ 7 58 14 239 ?_
     refine tz_ 4 55 14 255 hHeld ?_
     refine tz_ 8 59 14 511 hHeld ?_
     refine oz_ 9 60 14 1023 fun K hK => ?_
     refine vz_ ?_
     refine hK.out _ _ ⟨(((Below.refl _ _).alloc (Nat.le_refl _) (.cells #[.int .i64 x.f0, .bool x.f1, .int .i64 x.f2] 39)).cell (World.block_lt_of_cell? _ _ hHeld.1)).trans hHeld.1, (((Below.refl _ _).alloc (Nat.le_refl _) (.cells #[.int .i64 x.f0, .bool x.f1, .int .i64 x.f2] 39)).cell (World.block_lt_of_cell? _ _ hHeld.2.1)).trans hHeld.2.1, (((Below.refl _ _).alloc (Nat.le_refl _) (.cells #[.int .i64 x.f0, .bool x.f1, .int .i64 x.f2] 39)).cell (World.block_lt_of_cell? _ _ hHeld.2.2.1)).trans hHeld.2.2.1, (((Below.refl _ _).alloc (Nat.le_refl _) (.cells #[.int .i64 x.f0, .bool x.f1, .int .i64 x.f2] 39)).cell (World.block_lt_of_cell? _ _ hHeld.2.2.2)).trans hHeld.2.2.2⟩ (fun hHeld => ?_)
     clear hK K
     refine nz_ ?_
     refine lz_ 10 61 14 2047 fun K hK => ?_
     refine Kd.R_append_step k39 (w0 := w2) w2.heap.size (by rfl) (.tmp 55) (.tmp 60) 27 39 (.agg #[.int .i64 0, .bool false, .int .i64 0]) 24 rfl Tryz.underlying27 info39 rfl (by decide) (by decide) (.slice Aj (j + j2) cj) (loc.take (j + j2)) x [.int .i64 x.f0, .bool x.f1, .int .i64 x.f2] (fun _ => True) (fun _ => False) rfl rfl (k39_mkM _ _ _ x) (fun _ hk => hk.elim) (fun _ _ => trivial) N9.out.loc N9.out.bel N9.out.bel.size (by rw [HLEN.out]; have := HLT2.out; omega) ?_
     intro v1 w10 hr1 hb1 hg1 _
     have NA := Aside0.mk (N9.out.putl hr1 hb1 hg1)
     have BX10 := Aside0.mk ((hg1.block _ (blk_lt N9.out.box) (Kd.R_ne N9.out.loc N9.out.box (by decide))).trans N9.out.box)
     obtain ⟨A1_, c1_, ev1⟩ := Kd.R_slice hr1
     rw [List.length_append, List.length_singleton, HLEN.out] at ev1
     subst ev1
     clear hr1 hb1 hg1
     rw [← HG.out] at NA BX10
     refine hK.out _ _ ?_
     clear hK K
     refine nz_ ?_
     refine pz_ 11 62 14 4095 ?_
     refine pz_ 12 63 14 8191 ?_
     refine last_ (i := 13) (N := none) (bm_ 14 16383) rfl rfl (by kernel_rfl) (by decide) (fun K hK => ?_)
     have hs_ : w10.cell? ⟨G, 1, none⟩ = some (.slice Aj (j + j2) cj) := (blk_cell BX10.out 1).trans rfl
     have hfs_ : w10.frozen? ⟨G, 1, none⟩ = false := blk_frozen BX10.out 1
     refine sz_ ?_
     refine hK.out _ _ ?_
     clear hK K
     refine dz_ ?_

     obtain ⟨w11, hw11⟩ : ∃ w11, w11 = w10.setCell ⟨G, 1, none⟩ (.slice A1_ (j + j2 + 1) c1_) := ⟨_, rfl⟩
     rw [← hw11] at NA ⊢
     clear hw11 BX10
     obtain ⟨As, cs, evs⟩ := Kd.R_slice NA.out.set
     have hlen2 : ((setsM j loc).take (j + j2)).length = j + j2 := by rw [List.length_take, setsM_length]; have := HDL.out; have := HLT.out; omega
     rw [hlen2] at evs
     subst evs
     have HLEN2 := Aside0.mk hlen2
     have BX2 := NA.out.box
     rw [← HG.out] at BX2
     have y2 : w11.cell? ⟨G, 2, none⟩ = some (.slice As (j + j2) cs) := (blk_cell BX2 2).trans rfl
     have BX2 := Aside0.mk BX2
     clear hlen2
     have bq : Below w.heap.size w w11 := B2.out.trans (NA.out.bel.mono B2.out.size)
     have hq := vt_at ((HH.out.2.2.1.below bq).reads.2.2) HXL.out
     obtain ⟨ad_, eq_, u0, u1, u2⟩ := hq
     injection eq_ with eq_
     subst eq_
     clear bq
     go_wp2_with fail
     obtain ⟨w13, hw13⟩ : ∃ w13, World.drew w11 = w13 := ⟨_, rfl⟩
     have b13 : Below w11.heap.size w11 w13 := by rw [← hw13]; exact (Below.refl _ _).drew
     have N13 := Aside0.mk (NA.out.below b13)
     have fx : ∀ {p : Addr} {u : Value}, w11.cell? p = some u → w13.cell? p = some u := fun h_ => b13.kp h_
     have g0 := fx y2
     have g1 := fx u0
     have g2 := fx u1
     have g3 := fx u2
     clear fx b13 y2 u0 u1 u2
     refine start_ (n := 15) (S := fun w' => w'.cell? ⟨G, 2, none⟩ = some (.slice As (j + j2) cs) ∧ w'.cell? (ad.add (j2 * 3)) = some (.int .i64 x.f0) ∧ w'.cell? (⟨(ad.add (j2 * 3)).block, (ad.add (j2 * 3)).off + 1, none⟩) = some (.bool x.f1) ∧ w'.cell? (⟨(ad.add (j2 * 3)).block, (ad.add (j2 * 3)).off + 2, none⟩) = some (.int .i64 x.f2)) (ds := [11, 14]) (bm_ 15 0) (by kernel_rfl) rfl rfl ⟨(by rw [hw13]; exact g0), (by rw [hw13]; exact g1), (by rw [hw13]; exact g2), (by rw [hw13]; exact g3)⟩ (fun hHeld => ?_)
     rw [hw13] at hHeld ⊢
     clear hw13 g0 g1 g2 g3
     refine pz_ 0 64 15 1 ?_
     refine pz_ 1 65 15 3 ?_
     refine pz_ 2 66 15 7 ?_
     refine pz_ 3 67 15 15 ?_
     refine pz_ 5 69 15 47 ?_
     refine pz_ 6 70 15 111 ?_
     refine pz_ 7 71 15 239 ?_
     refine tz_ 4 68 15 255 hHeld ?_
     refine tz_ 8 72 15 511 hHeld ?_
     refine oz_ 9 73 15 1023 fun K hK => ?_
     refine gz_ Tryz.func68 #[.agg #[.int .i64 x.f0, .bool x.f1, .int .i64 x.f2]] ?_
     with_reducible refine (rdef_calls x w13).mono ?_
     rintro e w14 ⟨rfl, hb_⟩
     have N14 := Aside0.mk (N13.out.below hb_)
     have BH := Aside0.mk hb_
     clear hb_
     refine ⟨_, rfl, ?_⟩
     refine hK.out _ _ ⟨BH.out.kp hHeld.1, BH.out.kp hHeld.2.1, BH.out.kp hHeld.2.2.1, BH.out.kp hHeld.2.2.2⟩ (fun hHeld => ?_)
     clear hK K
     refine nz_ ?_
     refine oz_ 10 74 15 2047 fun K hK => ?_
     refine vz_ ?_
     refine hK.out _ _ ⟨(((Below.refl _ _).alloc (Nat.le_refl _) (.cells #[.bool (defM x)] 4)).cell (World.block_lt_of_cell? _ _ hHeld.1)).trans hHeld.1, (((Below.refl _ _).alloc (Nat.le_refl _) (.cells #[.bool (defM x)] 4)).cell (World.block_lt_of_cell? _ _ hHeld.2.1)).trans hHeld.2.1, (((Below.refl _ _).alloc (Nat.le_refl _) (.cells #[.bool (defM x)] 4)).cell (World.block_lt_of_cell? _ _ hHeld.2.2.1)).trans hHeld.2.2.1, (((Below.refl _ _).alloc (Nat.le_refl _) (.cells #[.bool (defM x)] 4)).cell (World.block_lt_of_cell? _ _ hHeld.2.2.2)).trans hHeld.2.2.2⟩ (fun hHeld => ?_)
     clear hK K
     refine nz_ ?_
     refine lz_ 11 75 15 4095 fun K hK => ?_
     refine Kd.R_append_step Kd.bool (w0 := w2) w2.heap.size (by rfl) (.tmp 68) (.tmp 74) 28 4 (.bool false) 1 rfl Tryz.underlying28 info4 rfl (by decide) (by decide) (.slice As (j + j2) cs) ((setsM j loc).take (j + j2)) (defM x) [.bool (defM x)] (fun _ => True) (fun _ => False) rfl rfl rfl (fun _ hk => hk.elim) (fun _ _ => trivial) N14.out.set N14.out.bel N14.out.bel.size (by rw [HLEN2.out]; have := HLT2.out; omega) ?_
     intro v1 w12 hr1 hb1 hg1 _
     have NB := Aside0.mk (N14.out.puts hr1 hb1 hg1)
     have BX12 := Aside0.mk ((hg1.block _ (blk_lt N14.out.box) (Kd.R_ne N14.out.set N14.out.box (by decide))).trans N14.out.box)
     obtain ⟨A2_, c2_, ev1⟩ := Kd.R_slice hr1
     rw [List.length_append, List.length_singleton, HLEN2.out] at ev1
     subst ev1
     clear hr1 hb1 hg1
     rw [← HG.out] at NB BX12
     refine hK.out _ _ ?_
     clear hK K
     refine nz_ ?_
     refine pz_ 12 76 15 8191 ?_
     refine pz_ 13 77 15 16383 ?_
     refine last_ (i := 14) (N := none) (bm_ 15 32767) rfl rfl (by kernel_rfl) (by decide) (fun K hK => ?_)
     have hs_ : w12.cell? ⟨G, 2, none⟩ = some (.slice As (j + j2) cs) := (blk_cell BX12.out 2).trans rfl
     have hfs_ : w12.frozen? ⟨G, 2, none⟩ = false := blk_frozen BX12.out 2
     refine sz_ ?_
     refine hK.out _ _ ?_
     clear hK K
     refine dz_ ?_

     go_wp2_with fail
     go_roundw
     case rel => exact ⟨j2 + 1, .slice A1_ (j + j2 + 1) c1_, .slice A2_ (j + j2 + 1) c2_, by go_num, HLT.out, by have h_ := NB.out; rw [← Nat.add_assoc, List.take_add_one, HX.out, List.take_add_one, HSX.out]; exact h_⟩
     case measure => have := HLT.out; simp [intOf]; omega
    ·obtain rfl : j2 = n2 := by omega
     clear hlt
     have hf1 : loc.take (j + j2) = loc := List.take_of_length_le (by have := HDL.out; omega)
     have hf2 : (setsM j loc).take (j + j2) = setsM j loc := List.take_of_length_le (by rw [setsM_length]; have := HDL.out; omega)
     rw [hf1, hf2] at hqw
     have bw := B2.out.trans (hqw.bel.mono B2.out.size)
     have hrv := hqw.done (w2' := w2) (l := l) (res := rs) (by rw [HN.out.2.2.2]; exact HH.out.1.below B2.out) KR.out (fun y e => Nat.lt_of_lt_of_le (HD.out y e) B2.out.size) B HB.out.1 (Nat.le_trans HB.out.2.1 B2.out.size) (HB.out.2.2.on ⟨B2.out.os, B2.out.tape, B2.out.output, B2.out.size, fun k hk => B2.out.block k (by have := HB.out.2.1; omega)⟩)
     rw [← HG.out] at hrv
     have b7 : Below wr.heap.size wr wr.drew := (Below.refl _ _).drew
     have H7 := Aside0.mk (hrv.below b7)
     have BW := Aside0.mk (bw.trans (b7.mono bw.size))
     have LR7 := Aside0.mk ((HH.out.2.2.2.below bw).below b7)
     have HGW : Aside0 (w.heap.size ≤ G) := ⟨by rw [HG.out]; exact B2.out.size⟩
     clear hf1 hf2 hrv hqw b7 bw N1
     go_wp2_with fail
     obtain ⟨w7, hw7⟩ : ∃ w7, World.drew wr = w7 := ⟨_, rfl⟩
     rw [hw7] at H7 BW LR7
     have z2 : w7.cell? ⟨G, 2, none⟩ = some vs := H7.out.c2
     refine start_ (n := 13) (S := fun w' => w'.cell? ⟨G, 2, none⟩ = some vs) (ds := [12]) (bm_ 13 0) (by kernel_rfl) rfl rfl ((by rw [hw7]; exact z2)) (fun hHeld => ?_)
     rw [hw7] at hHeld ⊢
     clear hw7 z2
     refine pz_ 0 78 13 1 ?_
     refine pz_ 1 79 13 3 ?_
     refine pz_ 3 81 13 11 ?_
     refine pz_ 4 82 13 27 ?_
     refine pz_ 5 83 13 59 ?_
     refine tz_ 6 84 13 123 hHeld ?_
     refine oz_ 2 80 13 127 fun K hK => ?_
     have K12 := q_list_calls D (fun y => D y ∨ y = G) rs w7 LR7.out (by have := HL.out.2.2; omega) H7.out.lt
     rw [← HN.out.2.2.1] at K12
     refine gz_ Tryz.func67 #[.slice A3 n3 c3] ?_
     with_reducible refine (K12).mono ?_
     rintro e w8 ⟨va, rfl, hla, hb⟩
     obtain ⟨Aa, ca, rfl⟩ := hla.slice
     have LA8 := Aside0.mk hla
     have H8 := Aside0.mk (H7.out.below hb)
     have B8 := Aside0.mk hb
     clear hla hb
     refine ⟨_, rfl, ?_⟩
     refine hK.out _ _ (H8.out.c2) (fun hHeld => ?_)
     clear hK K
     refine nz_ ?_
     refine oz_ 7 85 13 255 fun K hK => ?_
     refine gz_ Tryz.func69 #[vs] ?_
     with_reducible refine (q_flags_calls (fun y => D y ∨ y = G) (fun y => D y ∨ y = G) (setsM j loc) w8 H8.out.set (by rw [setsM_length]; have := HDL.out; omega) H8.out.lt).mono ?_
     rintro e w9 ⟨vc, rfl, hlc, hb⟩
     obtain ⟨Ac, cc, rfl⟩ := hlc.slice
     have LC9 := Aside0.mk hlc
     have LA9 := Aside0.mk (LA8.out.below hb)
     have H9 := Aside0.mk (H8.out.below hb)
     have BB9 := Aside0.mk (B8.out.trans (hb.mono B8.out.size))
     clear hlc hb
     refine ⟨_, rfl, ?_⟩
     refine hK.out _ _ (H9.out.c2) (fun hHeld => ?_)
     clear hK K
     refine nz_ ?_
     refine pz_ 8 86 13 511 ?_
     refine oz_ 9 87 13 1023 fun K hK => ?_
     refine vz_ ?_
     refine hK.out _ _ ((H9.out.below ((Below.refl _ _).alloc (Nat.le_refl _) (.cells #[.int .i64 2, .slice none 0 0, .slice Aa rs.length ca, .int .i64 0, .slice Ac (setsM j loc).length cc, .bool false] 139))).c2) (fun hHeld => ?_)
     clear hK K
     refine nz_ ?_
     refine pz_ 10 88 13 2047 ?_
     refine pz_ 11 89 13 4095 ?_
     refine last_ (i := 12) (N := none) (bm_ 13 8191) rfl rfl (by kernel_rfl) (by decide) (fun K hK => ?_)
     have H10 := Aside0.mk (H9.out.below ((Below.refl _ _).alloc (Nat.le_refl _) (.cells #[.int .i64 2, .slice none 0 0, .slice Aa rs.length ca, .int .i64 0, .slice Ac (setsM j loc).length cc, .bool false] 139)))
     have hs_ : (w9.alloc (.cells #[.int .i64 2, .slice none 0 0, .slice Aa rs.length ca, .int .i64 0, .slice Ac (setsM j loc).length cc, .bool false] 139)).cell? ⟨G, 4, none⟩ = some (.slice none 0 0) := H10.out.c4
     have hfs_ : (w9.alloc (.cells #[.int .i64 2, .slice none 0 0, .slice Aa rs.length ca, .int .i64 0, .slice Ac (setsM j loc).length cc, .bool false] 139)).frozen? ⟨G, 4, none⟩ = false := blk_frozen H10.out.box 4
     refine sz_ ?_
     refine hK.out _ _ ?_
     clear hK K
     refine dz_ ?_

     go_wp2_with fail
     go_ret
     have FK10 : Kd.FK k139 (w9.alloc (.cells #[.int .i64 2, .slice none 0 0, .slice Aa rs.length ca, .int .i64 0, .slice Ac (setsM j loc).length cc, .bool false] 139)) (fun y => ¬ (D y ∨ y = G)) (Fr.q ⟨2, [], rs, 0, setsM j loc, false⟩) [.int .i64 2, .slice none 0 0, .slice Aa rs.length ca, .int .i64 0, .slice Ac (setsM j loc).length cc, .bool false] := Kd.FK_below (k139_mkF w9 _ (Fr.q ⟨2, [], rs, 0, setsM j loc, false⟩) (LK.nil k39 (fun y => D y ∨ y = G) w9).reads.2.1 (LK.nil k39 (fun y => D y ∨ y = G) w9).F LA9.out.reads.2.1 LA9.out.F LC9.out.reads.2.1 LC9.out.F) ((Below.refl _ _).alloc (Nat.le_refl _) (.cells #[.int .i64 2, .slice none 0 0, .slice Aa rs.length ca, .int .i64 0, .slice Ac (setsM j loc).length cc, .bool false] 139))
     have h_ := H10.out.frames (lk_qlit w9 ⟨2, [], rs, 0, setsM j loc, false⟩ [.int .i64 2, .slice none 0 0, .slice Aa rs.length ca, .int .i64 0, .slice Ac (setsM j loc).length cc, .bool false] rfl (by simp [Value.oneCell']) FK10 H9.out.lt)
     exact ⟨G, rfl, HGW.out, ⟨_, _, _, _, _, _, h_⟩, ((BW.out.trans (BB9.out.mono BW.out.size)).trans (((Below.refl _ _).alloc (Nat.le_refl _) (.cells #[.int .i64 2, .slice none 0 0, .slice Aa rs.length ca, .int .i64 0, .slice Ac (setsM j loc).length cc, .bool false] 139)).mono (Nat.le_trans BW.out.size BB9.out.size))).setCell (p := ⟨G, 4, none⟩) HGW.out _⟩
def NV64 (i : Int) : Prop := -9223372036854775808 ≤ i ∧ i ≤ 9223372036854775807
/-- How much a type, a group, a list of groups holds. -/
def vS (s : S123) : Nat := s.f1.length + s.f2.f1.length + s.f2.f2.length + s.f2.f3.length + 1
def vG (l : List S123) : Nat := (l.map vS).sum
def vL (l : List S132) : Nat := (l.map fun r => vG r.f0 + 1).sum
theorem v_sum_le {α : Type} (f : α → Nat) : ∀ (l : List α) (x : α), x ∈ l → f x ≤ (l.map f).sum
 | y :: l, x, h => by
  rcases List.mem_cons.1 h with rfl | h
  ·simp
  ·have := v_sum_le f l x h
   simp only [List.map_cons, List.sum_cons]; omega
theorem v_len_le {α : Type} (f : α → Nat) (hf : ∀ x, 1 ≤ f x) : ∀ l : List α, l.length ≤ (l.map f).sum
 | [] => by simp
 | y :: l => by
  have := v_len_le f hf l
  have := hf y
  simp only [List.map_cons, List.sum_cons, List.length_cons]; omega
theorem vS_pos (s : S123) : 1 ≤ vS s := by unfold vS; omega
/-- All types of a list. -/
def vcount (l : List S132) : Nat := (l.map fun r => r.f0.length).sum
theorem vcount_le (l : List S132) : vcount l + l.length ≤ vL l := by
 unfold vcount vL
 induction l with
 | nil => simp
 | cons r l ih =>
  have h := v_len_le vS vS_pos r.f0
  unfold vG
  simp only [List.map_cons, List.sum_cons, List.length_cons]
  unfold vG at ih
  omega
/-- A type by its number. -/
def atV : List S132 → Int → Option S123
 | [], _ => none
 | r :: l, n => if n < (r.f0.length : Int) then r.f0[n.toNat]? else atV l (n - r.f0.length)
def atN (l : List S132) (n : Int) : Option S123 := if n < 0 then none else atV l n
theorem rd_RT_at0 (l : List S132) (j : Nat) (h : j < l.length) : l[j]? = some (rd_T132 l (j : Int)) := by simp [rd_T132, List.getD_eq_getElem?_getD, List.getElem?_eq_getElem h]
theorem drop_at {α : Type} {l : List α} {j : Nat} {x : α} (h : l[j]? = some x) : l.drop j = x :: l.drop (j + 1) := by
 obtain ⟨hj, he⟩ := List.getElem?_eq_some_iff.1 h
 rw [← he, List.drop_eq_getElem_cons hj]
theorem below_of_grown {W W' : World} (hg : W.grownBy W' none) : Below W.heap.size W W' := ⟨hg.os, hg.tape, hg.output, hg.size, fun k hk => hg.block k hk (by simp)⟩
theorem tAtT_calls (h : Int) (w : World) : Calls Tryz.prog 109 (#[.int .i64 h] ++ #[]) w fun e w' => e = .returned (.int .i64 h) ∧ Below w.heap.size w w' := by
 go_enter Tryz.func109, Tryz.ntmps109
 go_wp2_with fail
 go_ret
 exact ⟨rfl, Below.refl _ _⟩
theorem idCb (wm : World) : Cb wm.heap.size none (fun _ => True) (fun (_ : Unit) w => Below wm.heap.size wm w) (fun s h => (s, h)) (.func (.func 109) #[] #[]) :=
 Cb.pure (f := fun h => h) (fun args w => enters_ Tryz.func109 (by kernel_rfl) rfl args w) (fun h w _ _ => tAtT_calls h w)
theorem foldm_id {α : Type} (g : Unit → α → Unit × α) (hg : ∀ s x, (g s x).2 = x) : ∀ (s : Unit) (l : List α), (foldm g s l).2 = l
 | s, [] => rfl
 | s, x :: l => by simp only [foldm, hg, foldm_id g hg]
theorem results_cell_t4 {P : Program} {fn : Func} {p u v x : Tmp} {ty : TypeId} (h : fn.results = #[.cell p ty, .tmp u, .tmp v, .tmp x]) (tmps : Array Value) (w : World) (g : Nat) (cs : Array Value)
  (hp : tmps.getD p undef = .pointer (some ⟨g, 0, none⟩)) (hl : (loadVar ty ⟨g, 0, none⟩).run P w = .ok (.agg cs) w) :
  (results fn tmps).run P w = .ok (.tuple #[.agg cs, tmps.getD u undef, tmps.getD v undef, tmps.getD x undef]) w := by
 have hp' : tmps[p]?.getD undef = .pointer (some ⟨g, 0, none⟩) := by simpa using hp
 simp [results, h, hp', asAddr, hl, Sem.run_bind, Result.andThen]
theorem vt_apart : ∀ q, q ∈ (39 : Nat) :: (k39).E → q ≠ 123 := by decide
/-- A row of value types that may be read. -/
def VR (w : World) (v : Value) (xs : List S39) : Prop := ∃ A c, v = .slice A xs.length c ∧ xs.length ≤ c ∧ Kd.C k39 w A xs.length xs
/-- The same, in memory that is new from b on. -/
def VQ (b : Nat) (w : World) (v : Value) (xs : List S39) : Prop := ∃ A c, v = .slice A xs.length c ∧ xs.length ≤ c ∧ (Kd.C k39 w A xs.length xs ∧ ∀ S : Nat → Prop, (∀ x, S x → x < b) → Kd.V k39 0 w 0 (fun k => ¬ S k) v xs)
theorem VQ.of_R {e b : Nat} {ok : Nat → Prop} {w : World} {v : Value} {xs : List S39} (h : Kd.R k39 e w b ok v xs) : VQ b w v xs := by
 obtain ⟨A, c, h1, h2, h3⟩ := Kd.R_reads h
 refine ⟨A, c, h1, h2, h3, fun S hS => ?_⟩
 have h1 := Kd.R_V (base' := 0) (Kd.R_bound h)
 have h2 : Kd.V k39 0 w 0 (fun k => ok k ∧ b ≤ k ∧ k < w.heap.size ∧ ∃ q, q ∈ e :: Kd.E k39 ∧ ∃ cells, w.heap[k]? = some (.cells cells q (0, 0))) v xs := h1
 exact Kd.V_mono h2 (fun k hk e => by have := hk.2.1; have := hS k e; omega)
theorem VQ.vr {b : Nat} {w : World} {v : Value} {xs : List S39} (h : VQ b w v xs) : VR w v xs := by
 obtain ⟨A, c, h1, h2, h3, _⟩ := h
 exact ⟨A, c, h1, h2, h3⟩
theorem VQ.nil (b : Nat) (w : World) : VQ b w (.slice none 0 0) [] := ⟨none, 0, rfl, Nat.le_refl _, Kd.C_nil _ _, fun S _ => Kd.V_nil _ 0 w 0 _⟩
theorem VQ.below {b : Nat} {w w' : World} {v : Value} {xs : List S39} (h : VQ b w v xs) (hb : Below w.heap.size w w') : VQ b w' v xs := by
 obtain ⟨A, c, h1, h2, h3, h4⟩ := h
 exact ⟨A, c, h1, h2, Kd.C_below h3 hb, fun S hS => Kd.V_below (h4 S hS) hb⟩
theorem VQ.down {b b' : Nat} {w : World} {v : Value} {xs : List S39} (h : VQ b w v xs) (hb : b' ≤ b) : VQ b' w v xs := by
 obtain ⟨A, c, h1, h2, h3, h4⟩ := h
 exact ⟨A, c, h1, h2, h3, fun S hS => h4 S (fun x e => Nat.lt_of_lt_of_le (hS x e) hb)⟩
def TAtOut (s? : Option S123) (w : World) (e : Ending) (w' : World) : Prop :=
 match s? with
 | some s => ∃ (E1 : Option Addr) (n1 m1 : Nat) (v2 v3 : Value) (E4 : Option Addr) (n4 m4 : Nat) (i p : Int), e = .returned (.tuple #[.agg #[.bool s.f0, .slice E1 n1 m1, .int .i64 s.f2.f0, v2, v3, .slice E4 n4 m4], .int .i64 i, .int .i64 p, .int .i64 0]) ∧ VQ w.heap.size w' v2 s.f2.f1 ∧ VQ w.heap.size w' v3 s.f2.f2 ∧ Below w.heap.size w w'
 | none => e = .returned (.tuple #[.agg #[.bool false, .slice none 0 0, .int .i64 0, .slice none 0 0, .slice none 0 0, .slice none 0 0], .int .i64 0, .int .i64 0, .int .i64 50]) ∧ Below w.heap.size w w'
set_option maxHeartbeats 8000000 in
theorem tAt_calls (A : Option Addr) (c : Nat) (l : List S132) (n : Int) (w : World) (hC : Kd.C k132 w A l.length l) (hb : vL l ≤ 1048576) (hn : NV64 n) :
  Calls Tryz.prog 58 #[.slice A l.length c, .int .i64 n] w (TAtOut (atN l n) w) := by
 have HC := Aside0.mk hC
 have hcnt := vcount_le l
 have HBK := Aside0.mk hb
 have HN := Aside0.mk hn
 have hll : l.length ≤ 1048576 := by omega
 have b0 : Below w.heap.size w (w.alloc (.cells #[.bool false, .slice none 0 0, .int .i64 0, .slice none 0 0, .slice none 0 0, .slice none 0 0] 123)) := bz_
 have Q0 := Aside0.mk (And.intro b0 (blk_new w (.cells #[.bool false, .slice none 0 0, .int .i64 0, .slice none 0 0, .slice none 0 0, .slice none 0 0] 123)))
 clear hC hcnt hb hn b0
 go_enter Tryz.func58, Tryz.ntmps58
 by_cases hneg : n < 0
 ·have EN : Aside0 (atN l n = none) := ⟨by simp [atN, hneg]⟩
  rw [EN.out]
  go_wp2_with fail
  refine bodyPost_ret (results_cell_t4 rfl _ _ w.heap.size #[.bool false, .slice none 0 0, .int .i64 0, .slice none 0 0, .slice none 0 0, .slice none 0 0] rfl (run_loadVar_row _ _ 123 123 _ (0, 0) _ (blk_new w _) Tryz.underlying123 rfl (by kernel_rfl))) rfl ?_
  exact ⟨rfl, bz_⟩
 have n0 : 0 ≤ n := by omega
 have N0 := Aside0.mk n0
 have EA : Aside0 (atN l n = atV l n) := ⟨by simp [atN, hneg]⟩
 clear hneg
 go_wp2_with fail
 clear n0
 go_loopw [14, 1] (fun i v W => ∃ (j : Nat) (x : Int), i = .int .i64 j ∧ j ≤ l.length ∧ v = .int .i64 x ∧ 0 ≤ x ∧ x ≤ n ∧ atV (l.drop j) x = atV l n ∧ Below w.heap.size w W ∧ W.heap[w.heap.size]? = some (.cells #[.bool false, .slice none 0 0, .int .i64 0, .slice none 0 0, .slice none 0 0, .slice none 0 0] 123 (0, 0))) (fun i _ _ => l.length - (intOf i).toNat)
 case atStart => exact ⟨0, n, rfl, Nat.zero_le _, rfl, N0.out, Int.le_refl _, rfl, Q0.out.1, Q0.out.2⟩
 case round =>
  clear Q0
  obtain ⟨j, x, rfl, hj, rfl, x0, xn, hx, hbw, hbx⟩ := hrel
  have HX := Aside0.mk hx
  have BW := Aside0.mk hbw
  have BX := Aside0.mk hbx
  have XN := Aside0.mk xn
  clear hx hbw hbx xn
  have j0 : (0 : Int) ≤ (j : Int) := Int.natCast_nonneg j
  by_cases hlj : j < l.length
  ·obtain ⟨ad, Ar, cr, ea, d0, d1, hrc, hrC⟩ := at_T132 HC.out (j : Int) j0 (by omega)
   subst ea
   have HRJ := Aside0.mk (rd_RT_at0 l j hlj)
   simp only [Int.toNat_natCast] at d0 d1
   obtain ⟨r, hre⟩ : ∃ r, r = rd_T132 l (j : Int) := ⟨_, rfl⟩
   rw [← hre] at d0 d1 hrc hrC HRJ
   clear hre
   have HRC := Aside0.mk hrC
   replace d0 := (BW.out.cell (World.block_lt_of_cell? w _ d0)).trans d0
   replace d1 := (BW.out.cell (World.block_lt_of_cell? w _ d1)).trans d1
   have jl : (j : Int) < (l.length : Int) := by omega
   obtain ⟨W2, hW2⟩ : ∃ W2, W2 = wr.alloc (.cells #[.slice Ar r.f0.length cr, .bool r.f1] 132) := ⟨_, rfl⟩
   have B2 : Aside0 (Below w.heap.size w W2) := ⟨by rw [hW2]; exact BW.out.alloc BW.out.size _⟩
   have X2 : Aside0 (W2.heap[w.heap.size]? = some (.cells #[.bool false, .slice none 0 0, .int .i64 0, .slice none 0 0, .slice none 0 0, .slice none 0 0] 123 (0, 0))) := ⟨by rw [hW2]; exact blk_alloc BX.out _⟩
   clear hrC hrc
   by_cases hxr : x < (r.f0.length : Int)
   ·obtain ⟨ae, A1, c1, A3, c3, A4, c4, A5, c5, eb, e0, e1, e2, e3, e4, e5, m1, r1, m3, r3, m4, r4, m5, r5⟩ := at_T123 HRC.out x x0 hxr
    subst eb
    obtain ⟨s, hs⟩ : ∃ s, s = rd_T123 r.f0 x := ⟨_, rfl⟩
    rw [← hs] at e0 e1 e2 e3 e4 e5 m1 r1 m3 r3 m4 r4 m5 r5
    have hsg : r.f0[x.toNat]? = some s := by
     rw [hs]; unfold rd_T123
     rw [List.getD_eq_getElem?_getD, List.getElem?_eq_getElem (by omega)]; rfl
    have EV : Aside0 (atN l n = some s) := ⟨by rw [EA.out, ← HX.out, drop_at HRJ.out]; unfold atV; rw [if_pos hxr, hsg]⟩
    have hsw : vS s ≤ 1048576 := by
     have h1 := v_sum_le vS r.f0 s (List.mem_of_getElem? hsg)
     have h2 := v_sum_le (fun r => vG r.f0 + 1) l r (List.mem_of_getElem? HRJ.out)
     have h3 := HBK.out
     unfold vL at h3
     unfold vG at h2 h3
     omega
    unfold vS at hsw
    have SW : Aside0 (s.f1.length ≤ 1048576 ∧ s.f2.f1.length ≤ 1048576 ∧ s.f2.f2.length ≤ 1048576 ∧ s.f2.f3.length ≤ 1048576) := ⟨⟨by omega, by omega, by omega, by omega⟩⟩
    have RR := Aside0.mk (And.intro r1 (And.intro r3 (And.intro r4 r5)))
    rw [EV.out]
    replace e0 := (BW.out.cell (World.block_lt_of_cell? w _ e0)).trans e0
    replace e1 := (BW.out.cell (World.block_lt_of_cell? w _ e1)).trans e1
    replace e2 := (BW.out.cell (World.block_lt_of_cell? w _ e2)).trans e2
    replace e3 := (BW.out.cell (World.block_lt_of_cell? w _ e3)).trans e3
    replace e4 := (BW.out.cell (World.block_lt_of_cell? w _ e4)).trans e4
    replace e5 := (BW.out.cell (World.block_lt_of_cell? w _ e5)).trans e5
    have hae : (ae.add (x.toNat * 6)).block < wr.heap.size := World.block_lt_of_cell? wr _ e0
    clear m1 r1 m3 r3 m4 r4 m5 r5 hs hsg hsw
    go_wp2_with fail
    rw [← hW2]
    have KT := turned_calls (idCb W2) w () s.f0 s.f2.f0 A1 c1 s.f1 A3 c3 s.f2.f1 A4 c4 s.f2.f2 A5 c5 s.f2.f3 W2 (Nat.le_refl _) B2.out (fun k e => by cases e) (Below.refl _ _) RR.out.1 RR.out.2.1 RR.out.2.2.1 RR.out.2.2.2 (fun _ _ => trivial) (fun _ _ _ => trivial) (fun _ _ _ => trivial) (fun _ _ _ => trivial) (by have := SW.out; omega) (by have := SW.out; omega) (by have := SW.out; omega) (by have := SW.out; omega)
    have i1 : (foldm (fun (s : Unit) h => (s, h)) () s.f1).2 = s.f1 := foldm_id _ (fun _ _ => rfl) _ _
    have iv : ∀ (s : Unit) (x : S39), (tval (fun (s : Unit) h => (s, h)) s x).2 = x := fun s x => by unfold tval; split <;> rfl
    rw [foldm_id _ iv, foldm_id _ iv] at KT
    clear i1 iv hW2 d0 d1 e0 e1 e2 e3 e4 e5 hae
    refine KT.mono ?_
    rintro e w3 ⟨v1, v2, v3, v4, rfl, R1, R2, R3, R4, _, hg⟩
    have B3 := Aside0.mk (B2.out.trans ((below_of_grown hg).mono B2.out.size))
    have hx3 := (below_of_grown hg).block w.heap.size (blk_lt X2.out)
    have X3 := Aside0.mk (hx3.trans X2.out)
    obtain ⟨B1_, b1_, eq1⟩ := Kd.R_slice R1
    obtain ⟨B2_, b2_, eq2⟩ := Kd.R_slice R2
    obtain ⟨B3_, b3_, eq3⟩ := Kd.R_slice R3
    obtain ⟨B4_, b4_, eq4⟩ := Kd.R_slice R4
    subst eq1 eq2 eq3 eq4
    obtain ⟨q4, hq4⟩ : ∃ q4, q4 = (foldm (tfield fun (s : Unit) h => (s, h)) (foldm (tval fun (s : Unit) h => (s, h)) (foldm (tval fun (s : Unit) h => (s, h)) (foldm (fun (s : Unit) h => (s, h)) () s.f1).1 s.f2.f1).1 s.f2.f2).1 s.f2.f3).2.length := ⟨_, rfl⟩
    rw [← hq4]
    clear hq4
    have RV := Aside0.mk (And.intro R2 R3)
    clear R1 R2 R3 R4 hg hx3 KT
    have z0 : w3.cell? ⟨w.heap.size, 0, none⟩ = some (.bool false) := (blk_cell X3.out 0).trans rfl
    have f0 : w3.frozen? ⟨w.heap.size, 0, none⟩ = false := blk_frozen X3.out 0
    have z1 : w3.cell? ⟨w.heap.size, 1, none⟩ = some (.slice none 0 0) := (blk_cell X3.out 1).trans rfl
    have f1 : w3.frozen? ⟨w.heap.size, 1, none⟩ = false := blk_frozen X3.out 1
    have z2 : w3.cell? ⟨w.heap.size, 2, none⟩ = some (.int .i64 0) := (blk_cell X3.out 2).trans rfl
    have f2 : w3.frozen? ⟨w.heap.size, 2, none⟩ = false := blk_frozen X3.out 2
    have z3 : w3.cell? ⟨w.heap.size, 3, none⟩ = some (.slice none 0 0) := (blk_cell X3.out 3).trans rfl
    have f3 : w3.frozen? ⟨w.heap.size, 3, none⟩ = false := blk_frozen X3.out 3
    have z4 : w3.cell? ⟨w.heap.size, 4, none⟩ = some (.slice none 0 0) := (blk_cell X3.out 4).trans rfl
    have f4 : w3.frozen? ⟨w.heap.size, 4, none⟩ = false := blk_frozen X3.out 4
    have z5 : w3.cell? ⟨w.heap.size, 5, none⟩ = some (.slice none 0 0) := (blk_cell X3.out 5).trans rfl
    have f5 : w3.frozen? ⟨w.heap.size, 5, none⟩ = false := blk_frozen X3.out 5
    go_wp2_with fail
    have h0 := X3.out
    have h1 := blk_set h0 0 (.bool s.f0)
    have h2 := blk_set h1 1 (.slice B1_ (foldm (fun (s : Unit) h => (s, h)) () s.f1).2.length b1_)
    have h3 := blk_set h2 2 (.int .i64 s.f2.f0)
    have h4 := blk_set h3 3 (.slice B2_ s.f2.f1.length b2_)
    have h5 := blk_set h4 4 (.slice B3_ s.f2.f2.length b3_)
    have h6 := blk_set h5 5 (.slice B4_ q4 b4_)
    have p0 := RV.out.1
    have y0 := RV.out.2
    have p1 := Kd.R_set p0 h0 vt_apart 0 (.bool s.f0)
    have y1 := Kd.R_set y0 h0 vt_apart 0 (.bool s.f0)
    have p2 := Kd.R_set p1 h1 vt_apart 1 (.slice B1_ (foldm (fun (s : Unit) h => (s, h)) () s.f1).2.length b1_)
    have y2 := Kd.R_set y1 h1 vt_apart 1 (.slice B1_ (foldm (fun (s : Unit) h => (s, h)) () s.f1).2.length b1_)
    have p3 := Kd.R_set p2 h2 vt_apart 2 (.int .i64 s.f2.f0)
    have y3 := Kd.R_set y2 h2 vt_apart 2 (.int .i64 s.f2.f0)
    have p4 := Kd.R_set p3 h3 vt_apart 3 (.slice B2_ s.f2.f1.length b2_)
    have y4 := Kd.R_set y3 h3 vt_apart 3 (.slice B2_ s.f2.f1.length b2_)
    have p5 := Kd.R_set p4 h4 vt_apart 4 (.slice B3_ s.f2.f2.length b3_)
    have y5 := Kd.R_set y4 h4 vt_apart 4 (.slice B3_ s.f2.f2.length b3_)
    have p6 := Kd.R_set p5 h5 vt_apart 5 (.slice B4_ q4 b4_)
    have y6 := Kd.R_set y5 h5 vt_apart 5 (.slice B4_ q4 b4_)
    refine bodyPost_ret (results_cell_t4 rfl _ _ w.heap.size #[.bool s.f0, .slice B1_ (foldm (fun (s : Unit) h => (s, h)) () s.f1).2.length b1_, .int .i64 s.f2.f0, .slice B2_ s.f2.f1.length b2_, .slice B3_ s.f2.f2.length b3_, .slice B4_ q4 b4_] rfl (run_loadVar_row _ _ 123 123 _ (0, 0) _ h6 Tryz.underlying123 rfl (by kernel_rfl))) rfl ?_
    exact ⟨_, _, _, _, _, _, _, _, _, _, rfl, (VQ.of_R p6).down B2.out.size, (VQ.of_R y6).down B2.out.size, ((((((B3.out.setCell (p := ⟨w.heap.size, 0, none⟩) (Nat.le_refl _) (.bool s.f0)).setCell (p := ⟨w.heap.size, 1, none⟩) (Nat.le_refl _) (.slice B1_ (foldm (fun (s : Unit) h => (s, h)) () s.f1).2.length b1_)).setCell (p := ⟨w.heap.size, 2, none⟩) (Nat.le_refl _) (.int .i64 s.f2.f0)).setCell (p := ⟨w.heap.size, 3, none⟩) (Nat.le_refl _) (.slice B2_ s.f2.f1.length b2_)).setCell (p := ⟨w.heap.size, 4, none⟩) (Nat.le_refl _) (.slice B3_ s.f2.f2.length b3_)).setCell (p := ⟨w.heap.size, 5, none⟩) (Nat.le_refl _) (.slice B4_ q4 b4_))⟩
   ·have hwx : wrap64 (x - (r.f0.length : Int)) = x - r.f0.length := by
     have h1 := HN.out
     have h2 := XN.out
     unfold NV64 at h1
     unfold wrap64; omega
    go_wp2_with fail
    rw [← hW2]
    go_roundw
    case rel => exact ⟨j + 1, x - r.f0.length, by go_num, by omega, by rw [hwx], by omega, by have := XN.out; omega, by rw [← HX.out, drop_at HRJ.out]; conv => rhs; unfold atV; rw [if_neg hxr], B2.out, X2.out⟩
    case measure => simp [intOf]; omega
  ·obtain rfl : j = l.length := by omega
   have EN : Aside0 (atN l n = none) := ⟨by rw [EA.out, ← HX.out, List.drop_length]; rfl⟩
   clear hj hlj
   have z0 : wr.cell? ⟨w.heap.size, 0, none⟩ = some (.bool false) := (blk_cell BX.out 0).trans rfl
   have f0 : wr.frozen? ⟨w.heap.size, 0, none⟩ = false := blk_frozen BX.out 0
   have z1 : wr.cell? ⟨w.heap.size, 1, none⟩ = some (.slice none 0 0) := (blk_cell BX.out 1).trans rfl
   have f1 : wr.frozen? ⟨w.heap.size, 1, none⟩ = false := blk_frozen BX.out 1
   have z2 : wr.cell? ⟨w.heap.size, 2, none⟩ = some (.int .i64 0) := (blk_cell BX.out 2).trans rfl
   have f2 : wr.frozen? ⟨w.heap.size, 2, none⟩ = false := blk_frozen BX.out 2
   have z3 : wr.cell? ⟨w.heap.size, 3, none⟩ = some (.slice none 0 0) := (blk_cell BX.out 3).trans rfl
   have f3 : wr.frozen? ⟨w.heap.size, 3, none⟩ = false := blk_frozen BX.out 3
   have z4 : wr.cell? ⟨w.heap.size, 4, none⟩ = some (.slice none 0 0) := (blk_cell BX.out 4).trans rfl
   have f4 : wr.frozen? ⟨w.heap.size, 4, none⟩ = false := blk_frozen BX.out 4
   have z5 : wr.cell? ⟨w.heap.size, 5, none⟩ = some (.slice none 0 0) := (blk_cell BX.out 5).trans rfl
   have f5 : wr.frozen? ⟨w.heap.size, 5, none⟩ = false := blk_frozen BX.out 5
   go_wp2_with fail
   have h0 := BX.out
   have h1 := blk_set h0 0 (.bool false)
   have h2 := blk_set h1 1 (.slice none 0 0)
   have h3 := blk_set h2 2 (.int .i64 0)
   have h4 := blk_set h3 3 (.slice none 0 0)
   have h5 := blk_set h4 4 (.slice none 0 0)
   have h6 := blk_set h5 5 (.slice none 0 0)
   refine bodyPost_ret (results_cell_t4 rfl _ _ w.heap.size #[.bool false, .slice none 0 0, .int .i64 0, .slice none 0 0, .slice none 0 0, .slice none 0 0] rfl (run_loadVar_row _ _ 123 123 _ (0, 0) _ h6 Tryz.underlying123 rfl (by kernel_rfl))) rfl ?_
   rw [EN.out]
   exact ⟨rfl, ((((((BW.out.setCell (p := ⟨w.heap.size, 0, none⟩) (Nat.le_refl _) (.bool false)).setCell (p := ⟨w.heap.size, 1, none⟩) (Nat.le_refl _) (.slice none 0 0)).setCell (p := ⟨w.heap.size, 2, none⟩) (Nat.le_refl _) (.int .i64 0)).setCell (p := ⟨w.heap.size, 3, none⟩) (Nat.le_refl _) (.slice none 0 0)).setCell (p := ⟨w.heap.size, 4, none⟩) (Nat.le_refl _) (.slice none 0 0)).setCell (p := ⟨w.heap.size, 5, none⟩) (Nat.le_refl _) (.slice none 0 0))⟩
/-- What a function type takes and answers. -/
def ftV (l : List S132) (n : Int) : List S39 × List S39 × Int :=
 match atN l n with
 | some s => if s.f2.f0 = 1 then (s.f2.f1, s.f2.f2, 0) else ([], [], 151)
 | none => ([], [], 150)
/-- The opcodes of Step. -/
def OPS : List Int := [0, 1, 8, 10, 12, 13, 14, 15, 16, 17, 18, 19, 20, 21, 213, 214]
/-- What a function type tells is no longer than what came in. -/
theorem atV_mem : ∀ (l : List S132) (n : Int) (s : S123), atV l n = some s → ∃ r ∈ l, s ∈ r.f0
 | [], n, s, h => by simp [atV] at h
 | r :: l, n, s, h => by
  unfold atV at h
  split at h
  ·exact ⟨r, List.mem_cons_self, List.mem_of_getElem? h⟩
  ·obtain ⟨r', h1, h2⟩ := atV_mem l _ s h
   exact ⟨r', List.mem_cons_of_mem _ h1, h2⟩
theorem ftV_len (l : List S132) (hb : vL l ≤ 1048576) (n : Int) : (ftV l n).1.length ≤ 1048576 ∧ (ftV l n).2.1.length ≤ 1048576 := by
 unfold ftV
 cases h : atN l n with
 | none => simp
 | some s =>
  have h' : atV l n = some s := by unfold atN at h; split at h; (· cases h); exact h
  obtain ⟨r, h1, h2⟩ := atV_mem l n s h'
  have h3 := v_sum_le vS r.f0 s h2
  have h4 := v_sum_le (fun r => vG r.f0 + 1) l r h1
  unfold vL at hb
  unfold vG at h4 hb
  have h5 : s.f1.length + s.f2.f1.length + s.f2.f2.length + s.f2.f3.length + 1 = vS s := rfl
  dsimp only
  split
  ·constructor <;> (dsimp only; omega)
  ·simp
/-- A Ctx that came in. -/
structure XIn (w : World) (A0 : Option Addr) (c0 : Nat) (l0 : List S132) (A1 : Option Addr) (c1 : Nat) (l1 : List Int) (A2 : Option Addr) (c2 : Nat) (l2 : List S214) (A3 : Option Addr) (c3 : Nat) (l3 : List S212) (A4 : Option Addr) (c4 : Nat) (l4 : List S292) (A5 : Option Addr) (c5 : Nat) (l5 : List Int) (A6 : Option Addr) (c6 : Nat) (l6 : List S39) (d7 : Int) (A8 : Option Addr) (c8 : Nat) (l8 : List Bool) : Prop where
 r0 : Kd.C k132 w A0 l0.length l0
 h0 : l0.length ≤ c0
 r1 : Kd.C (Kd.int .i64) w A1 l1.length l1
 h1 : l1.length ≤ c1
 r2 : Kd.C k214 w A2 l2.length l2
 h2 : l2.length ≤ c2
 r3 : Kd.C k212 w A3 l3.length l3
 h3 : l3.length ≤ c3
 r4 : Kd.C k292 w A4 l4.length l4
 h4 : l4.length ≤ c4
 r5 : Kd.C (Kd.int .i64) w A5 l5.length l5
 h5 : l5.length ≤ c5
 r6 : Kd.C k39 w A6 l6.length l6
 h6 : l6.length ≤ c6
 r8 : Kd.C Kd.bool w A8 l8.length l8
 h8 : l8.length ≤ c8
 bulk : vL l0 ≤ 1048576
theorem XIn.below {w w' : World} {A0 : Option Addr} {c0 : Nat} {l0 : List S132} {A1 : Option Addr} {c1 : Nat} {l1 : List Int} {A2 : Option Addr} {c2 : Nat} {l2 : List S214} {A3 : Option Addr} {c3 : Nat} {l3 : List S212} {A4 : Option Addr} {c4 : Nat} {l4 : List S292} {A5 : Option Addr} {c5 : Nat} {l5 : List Int} {A6 : Option Addr} {c6 : Nat} {l6 : List S39} {d7 : Int} {A8 : Option Addr} {c8 : Nat} {l8 : List Bool} (h : XIn w A0 c0 l0 A1 c1 l1 A2 c2 l2 A3 c3 l3 A4 c4 l4 A5 c5 l5 A6 c6 l6 d7 A8 c8 l8) (hb : Below w.heap.size w w') : XIn w' A0 c0 l0 A1 c1 l1 A2 c2 l2 A3 c3 l3 A4 c4 l4 A5 c5 l5 A6 c6 l6 d7 A8 c8 l8 := ⟨Kd.C_below h.r0 hb, h.h0, Kd.C_below h.r1 hb, h.h1, Kd.C_below h.r2 hb, h.h2, Kd.C_below h.r3 hb, h.h3, Kd.C_below h.r4 hb, h.h4, Kd.C_below h.r5 hb, h.h5, Kd.C_below h.r6 hb, h.h6, Kd.C_below h.r8 hb, h.h8, h.bulk⟩
def FtOut (r : List S39 × List S39 × Int) (w : World) (e : Ending) (w' : World) : Prop :=
 ∃ v1 v2, e = .returned (.tuple #[v1, v2, .int .i64 r.2.2]) ∧ VR w' v1 r.1 ∧ VR w' v2 r.2.1 ∧ Below w.heap.size w w'
def FtOwn (r : List S39 × List S39 × Int) (w : World) (e : Ending) (w' : World) : Prop :=
 ∃ v1 v2, e = .returned (.tuple #[v1, v2, .int .i64 r.2.2]) ∧ VQ w.heap.size w' v1 r.1 ∧ VQ w.heap.size w' v2 r.2.1 ∧ Below w.heap.size w w'
set_option maxHeartbeats 8000000 in
theorem vFuncType_own (A0 : Option Addr) (c0 : Nat) (l0 : List S132) (A1 : Option Addr) (c1 : Nat) (l1 : List Int) (A2 : Option Addr) (c2 : Nat) (l2 : List S214) (A3 : Option Addr) (c3 : Nat) (l3 : List S212) (A4 : Option Addr) (c4 : Nat) (l4 : List S292) (A5 : Option Addr) (c5 : Nat) (l5 : List Int) (A6 : Option Addr) (c6 : Nat) (l6 : List S39) (d7 : Int) (A8 : Option Addr) (c8 : Nat) (l8 : List Bool) (n : Int) (w : World) (hx : XIn w A0 c0 l0 A1 c1 l1 A2 c2 l2 A3 c3 l3 A4 c4 l4 A5 c5 l5 A6 c6 l6 d7 A8 c8 l8) (hn : NV64 n) :
  Calls Tryz.prog 23 #[.agg #[.slice A0 l0.length c0, .slice A1 l1.length c1, .slice A2 l2.length c2, .slice A3 l3.length c3, .slice A4 l4.length c4, .slice A5 l5.length c5, .slice A6 l6.length c6, .int .i64 d7, .slice A8 l8.length c8], .int .i64 n] w (FtOwn (ftV l0 n) w) := by
 obtain ⟨W1, hW1⟩ : ∃ W1, W1 = w.alloc (.cells #[.slice A0 l0.length c0, .slice A1 l1.length c1, .slice A2 l2.length c2, .slice A3 l3.length c3, .slice A4 l4.length c4, .slice A5 l5.length c5, .slice A6 l6.length c6, .int .i64 d7, .slice A8 l8.length c8] 30) := ⟨_, rfl⟩
 have b1 : Below w.heap.size w W1 := by rw [hW1]; exact bz_
 have B1 := Aside0.mk b1
 have K := tAt_calls A0 c0 l0 n W1 (Kd.C_below hx.r0 b1) hx.bulk hn
 clear b1 hx hn
 cases hs : atN l0 n with
 | none =>
  have EV : ftV l0 n = ([], [], 150) := by unfold ftV; rw [hs]
  rw [EV]
  rw [hs] at K
  clear hs EV
  go_enter Tryz.func23, Tryz.ntmps23
  go_wp2_with fail
  rw [← hW1]
  clear hW1
  refine K.mono ?_
  rintro e w2 ⟨rfl, hb⟩
  have B2 := Aside0.mk (B1.out.trans (hb.mono B1.out.size))
  clear hb K
  go_wp2_with fail
  refine bodyPost_ret (results_tmp3 rfl _ _ _) rfl ?_
  exact ⟨_, _, rfl, VQ.nil _ _, VQ.nil _ _, B2.out.alloc B2.out.size _⟩
 | some t =>
  have EV : ftV l0 n = if t.f2.f0 = 1 then (t.f2.f1, t.f2.f2, 0) else ([], [], 151) := by unfold ftV; rw [hs]
  rw [EV]
  rw [hs] at K
  clear hs EV
  by_cases hk : t.f2.f0 = 1
  ·rw [if_pos hk]
   have ek : (t.f2.f0 != 1) = false := by simp [hk]
   clear hk
   go_enter Tryz.func23, Tryz.ntmps23
   go_wp2_with fail
   rw [← hW1]
   clear hW1
   refine K.mono ?_
   rintro e w2 ⟨E1, n1, m1, v2, v3, E4, n4, m4, i, p, rfl, hr2, hr3, hb⟩
   have B2 := Aside0.mk (B1.out.trans (hb.mono B1.out.size))
   have R2 := Aside0.mk hr2
   have R3 := Aside0.mk hr3
   obtain ⟨D2, d2, e2, l2_, x2⟩ := hr2
   obtain ⟨D3, d3, e3, l3_, x3⟩ := hr3
   subst e2 e3
   clear x2 x3 l2_ l3_ hb K
   obtain ⟨W3, hW3⟩ : ∃ W3, W3 = w2.alloc (.cells #[.bool t.f0, .slice E1 n1 m1, .int .i64 t.f2.f0, .slice D2 t.f2.f1.length d2, .slice D3 t.f2.f2.length d3, .slice E4 n4 m4] 123) := ⟨_, rfl⟩
   have B3 : Aside0 (Below w.heap.size w W3) := ⟨by rw [hW3]; exact B2.out.alloc B2.out.size _⟩
   have BB : Aside0 (Below w2.heap.size w2 W3) := ⟨by rw [hW3]; exact bz_⟩
   have hq : W3.heap[w2.heap.size]? = some (.cells #[.bool t.f0, .slice E1 n1 m1, .int .i64 t.f2.f0, .slice D2 t.f2.f1.length d2, .slice D3 t.f2.f2.length d3, .slice E4 n4 m4] 123 (0, 0)) := by rw [hW3]; exact blk_new w2 _
   have z3 : W3.cell? ⟨w2.heap.size, 3, none⟩ = some (.slice D2 t.f2.f1.length d2) := (blk_cell hq 3).trans rfl
   have z4 : W3.cell? ⟨w2.heap.size, 4, none⟩ = some (.slice D3 t.f2.f2.length d3) := (blk_cell hq 4).trans rfl
   clear hq
   go_wp2_with fail
   rw [← hW3]
   clear hW3
   refine start_ (n := 9) (S := fun w' => w'.cell? ⟨w2.heap.size, 3, none⟩ = some (.slice D2 t.f2.f1.length d2) ∧ w'.cell? ⟨w2.heap.size, 4, none⟩ = some (.slice D3 t.f2.f2.length d3)) (ds := []) (bm_ 9 0) (by kernel_rfl) rfl rfl ⟨z3, z4⟩ (fun hHeld => ?_)
   refine pz_ 0 28 9 1 ?_
   refine pz_ 1 29 9 3 ?_
   refine pz_ 3 31 9 11 ?_
   refine pz_ 4 32 9 27 ?_
   refine tz_ 2 30 9 31 hHeld ?_
   refine pz_ 6 4 9 95 ?_
   refine tz_ 5 33 9 127 hHeld ?_
   refine pz_ 7 5 9 255 ?_
   refine pz_ 8 6 9 511 ?_
   refine dz_ ?_
   go_wp2_with fail
   refine bodyPost_ret (results_tmp3 rfl _ _ _) rfl ?_
   exact ⟨_, _, rfl, (R2.out.below BB.out.drew).down B1.out.size, (R3.out.below BB.out.drew).down B1.out.size, B3.out.drew⟩
  ·rw [if_neg hk]
   have ek : (t.f2.f0 != 1) = true := by simp [hk]
   clear hk
   go_enter Tryz.func23, Tryz.ntmps23
   go_wp2_with fail
   rw [← hW1]
   clear hW1
   refine K.mono ?_
   rintro e w2 ⟨E1, n1, m1, v2, v3, E4, n4, m4, i, p, rfl, hr2, hr3, hb⟩
   have B2 := Aside0.mk (B1.out.trans (hb.mono B1.out.size))
   obtain ⟨D2, d2, e2, l2_, x2⟩ := hr2
   obtain ⟨D3, d3, e3, l3_, x3⟩ := hr3
   subst e2 e3
   clear x2 x3 l2_ l3_ hb K
   go_wp2_with fail
   refine bodyPost_ret (results_tmp3 rfl _ _ _) rfl ?_
   exact ⟨_, _, rfl, VQ.nil _ _, VQ.nil _ _, B2.out.alloc B2.out.size _⟩
theorem vFuncType_calls (A0 : Option Addr) (c0 : Nat) (l0 : List S132) (A1 : Option Addr) (c1 : Nat) (l1 : List Int) (A2 : Option Addr) (c2 : Nat) (l2 : List S214) (A3 : Option Addr) (c3 : Nat) (l3 : List S212) (A4 : Option Addr) (c4 : Nat) (l4 : List S292) (A5 : Option Addr) (c5 : Nat) (l5 : List Int) (A6 : Option Addr) (c6 : Nat) (l6 : List S39) (d7 : Int) (A8 : Option Addr) (c8 : Nat) (l8 : List Bool) (n : Int) (w : World) (hx : XIn w A0 c0 l0 A1 c1 l1 A2 c2 l2 A3 c3 l3 A4 c4 l4 A5 c5 l5 A6 c6 l6 d7 A8 c8 l8) (hn : NV64 n) :
  Calls Tryz.prog 23 #[.agg #[.slice A0 l0.length c0, .slice A1 l1.length c1, .slice A2 l2.length c2, .slice A3 l3.length c3, .slice A4 l4.length c4, .slice A5 l5.length c5, .slice A6 l6.length c6, .int .i64 d7, .slice A8 l8.length c8], .int .i64 n] w (FtOut (ftV l0 n) w) :=
 (vFuncType_own A0 c0 l0 A1 c1 l1 A2 c2 l2 A3 c3 l3 A4 c4 l4 A5 c5 l5 A6 c6 l6 d7 A8 c8 l8 n w hx hn).mono (fun e w' ⟨v1, v2, e1, h1, h2, h3⟩ => ⟨v1, v2, e1, h1.vr, h2.vr, h3⟩)
end Go.Proofs.YtohlmkcgempdlaaGreatDoor.Cn
