/- Parts of the proof of vctlDead_holds (23 of 24): what it says and shows stands at its declarations. -/
import Derived.Test.YtohlmkcgempdlaaGreatDoorZVd22
namespace Go.Proofs.YtohlmkcgempdlaaGreatDoor.Cn
set_option linter.unusedSimpArgs false
set_option maxRecDepth 100000
set_option linter.unusedVariables false
open Go.RowKit Go.Maps Go.Proofs.YtohlmkcgempdlaaGreatDoorW.PrintWords Go.Proofs.YtohlmkcgempdlaaGreatDoorW.PrintLast Go.Proofs.YtohlmkcgempdlaaGreatDoorW.PrintMore Go.Proofs.YtohlmkcgempdlaaGreatDoor.QD
section
variable {w w' : World} {X : CX} {I : IX} {AP : Option Addr} {cP : Nat} {ps : List S39} {AL : Option Addr} {cL : Nat} {ls : List S39} {AR : Option Addr} {cR : Nat} {rs : List S39} {AD : Option Addr} {cD : Nat} {dp : List (List S39)} {AS : Option Addr} {cS : Nat} {st : List S39} {dead : Bool}
theorem WRows.none (h : WRows w AP cP ps AL cL ls AR cR rs AD cD dp AS cS st) : WRows w AP cP ps AL cL ls AR cR rs AD cD dp none 0 [] :=
 ⟨h.p, h.hp, h.l, h.hl, h.r, h.hr, h.d, h.hd, Kd.C_nil _ _, Nat.le_refl _, h.bp, h.bl, h.br, h.bd, Nat.zero_le _, h.bt⟩
theorem dead_of {l0 : List S132} {f f2 : Fr} (h0 : f2.height = 0) (hd : f2.dead = true) (h : (stepM X I (begK l0 ps ls rs dp st dead) f).1 = 0) : (stepM X I (begK l0 ps ls rs dp [] true) f2).1 = 0 :=
 stepM_dead (k := begK l0 ps ls rs dp [] true) (k1 := begK l0 ps ls rs dp st dead) h0 hd rfl X I (fun n => by rw [begK_lab, begK_lab]) rfl h
set_option maxHeartbeats 16000000 in
theorem vctlDead_calls (h : LI w X I AP cP ps AL cL ls AR cR rs AD cD dp AS cS st) (dead : Bool) : Calls Tryz.prog 4 #[.agg #[.slice X.A0 X.l0.length X.c0, .slice X.A1 X.l1.length X.c1, .slice X.A2 X.l2.length X.c2, .slice X.A3 X.l3.length X.c3, .slice X.A4 X.l4.length X.c4, .slice X.A5 X.l5.length X.c5, .slice X.A6 X.l6.length X.c6, .int .i64 X.d7, .slice X.A8 X.l8.length X.c8, .slice AP ps.length cP, .slice AL ls.length cL, .slice AR rs.length cR, .slice AD dp.length cD, .slice AS st.length cS, .bool dead], .agg #[.int .i64 I.op, .int .u32 I.x, .int .u32 I.y, I.v3, I.v4, I.v5, I.v6, I.v7, I.v8, I.v9, I.v10, I.v11, I.v12, I.v13, .slice I.AL I.ls.length I.cL, I.v15, I.v16]] w fun e w' => e = .returned (.bool true) ∧ Below w.heap.size w w' := by
 obtain ⟨W, hW⟩ : ∃ W, W = (w.alloc (.cells #[.slice X.A0 X.l0.length X.c0, .slice X.A1 X.l1.length X.c1, .slice X.A2 X.l2.length X.c2, .slice X.A3 X.l3.length X.c3, .slice X.A4 X.l4.length X.c4, .slice X.A5 X.l5.length X.c5, .slice X.A6 X.l6.length X.c6, .int .i64 X.d7, .slice X.A8 X.l8.length X.c8, .slice AP ps.length cP, .slice AL ls.length cL, .slice AR rs.length cR, .slice AD dp.length cD, .slice AS st.length cS, .bool dead] 33)).alloc (.cells #[.int .i64 I.op, .int .u32 I.x, .int .u32 I.y, I.v3, I.v4, I.v5, I.v6, I.v7, I.v8, I.v9, I.v10, I.v11, I.v12, I.v13, .slice I.AL I.ls.length I.cL, I.v15, I.v16] 46) := ⟨_, rfl⟩
 have b1 : Below w.heap.size w W := by rw [hW]; exact (bz_).alloc (by simp) _
 have hq0 : W.heap[w.heap.size]? = some (.cells #[.slice X.A0 X.l0.length X.c0, .slice X.A1 X.l1.length X.c1, .slice X.A2 X.l2.length X.c2, .slice X.A3 X.l3.length X.c3, .slice X.A4 X.l4.length X.c4, .slice X.A5 X.l5.length X.c5, .slice X.A6 X.l6.length X.c6, .int .i64 X.d7, .slice X.A8 X.l8.length X.c8, .slice AP ps.length cP, .slice AL ls.length cL, .slice AR rs.length cR, .slice AD dp.length cD, .slice AS st.length cS, .bool dead] 33 (0, 0)) := by rw [hW]; exact blk_alloc (blk_new w _) _
 have hq1 : W.heap[w.heap.size + 1]? = some (.cells #[.int .i64 I.op, .int .u32 I.x, .int .u32 I.y, I.v3, I.v4, I.v5, I.v6, I.v7, I.v8, I.v9, I.v10, I.v11, I.v12, I.v13, .slice I.AL I.ls.length I.cL, I.v15, I.v16] 46 (0, 0)) := by rw [hW]; have h_ := blk_new (w.alloc (.cells #[.slice X.A0 X.l0.length X.c0, .slice X.A1 X.l1.length X.c1, .slice X.A2 X.l2.length X.c2, .slice X.A3 X.l3.length X.c3, .slice X.A4 X.l4.length X.c4, .slice X.A5 X.l5.length X.c5, .slice X.A6 X.l6.length X.c6, .int .i64 X.d7, .slice X.A8 X.l8.length X.c8, .slice AP ps.length cP, .slice AL ls.length cL, .slice AR rs.length cR, .slice AD dp.length cD, .slice AS st.length cS, .bool dead] 33)) (.cells #[.int .i64 I.op, .int .u32 I.x, .int .u32 I.y, I.v3, I.v4, I.v5, I.v6, I.v7, I.v8, I.v9, I.v10, I.v11, I.v12, I.v13, .slice I.AL I.ls.length I.cL, I.v15, I.v16] 46); rw [World.size_alloc] at h_; exact h_
 have HQ := Aside0.mk (And.intro hq0 hq1)
 have H := Aside0.mk h
 have B1 := Aside0.mk b1
 have KO := lopen_calls X (h.x.below b1) h.bw
 have x0 : ((w.alloc (.cells #[.slice X.A0 X.l0.length X.c0, .slice X.A1 X.l1.length X.c1, .slice X.A2 X.l2.length X.c2, .slice X.A3 X.l3.length X.c3, .slice X.A4 X.l4.length X.c4, .slice X.A5 X.l5.length X.c5, .slice X.A6 X.l6.length X.c6, .int .i64 X.d7, .slice X.A8 X.l8.length X.c8, .slice AP ps.length cP, .slice AL ls.length cL, .slice AR rs.length cR, .slice AD dp.length cD, .slice AS st.length cS, .bool dead] 33)).alloc (.cells #[.int .i64 I.op, .int .u32 I.x, .int .u32 I.y, I.v3, I.v4, I.v5, I.v6, I.v7, I.v8, I.v9, I.v10, I.v11, I.v12, I.v13, .slice I.AL I.ls.length I.cL, I.v15, I.v16] 46)).cell? ⟨w.heap.size, 0, none⟩ = some (.slice X.A0 X.l0.length X.c0) := by rw [← hW]; exact (blk_cell hq0 0).trans rfl
 have x1 : ((w.alloc (.cells #[.slice X.A0 X.l0.length X.c0, .slice X.A1 X.l1.length X.c1, .slice X.A2 X.l2.length X.c2, .slice X.A3 X.l3.length X.c3, .slice X.A4 X.l4.length X.c4, .slice X.A5 X.l5.length X.c5, .slice X.A6 X.l6.length X.c6, .int .i64 X.d7, .slice X.A8 X.l8.length X.c8, .slice AP ps.length cP, .slice AL ls.length cL, .slice AR rs.length cR, .slice AD dp.length cD, .slice AS st.length cS, .bool dead] 33)).alloc (.cells #[.int .i64 I.op, .int .u32 I.x, .int .u32 I.y, I.v3, I.v4, I.v5, I.v6, I.v7, I.v8, I.v9, I.v10, I.v11, I.v12, I.v13, .slice I.AL I.ls.length I.cL, I.v15, I.v16] 46)).cell? ⟨w.heap.size, 1, none⟩ = some (.slice X.A1 X.l1.length X.c1) := by rw [← hW]; exact (blk_cell hq0 1).trans rfl
 have x2 : ((w.alloc (.cells #[.slice X.A0 X.l0.length X.c0, .slice X.A1 X.l1.length X.c1, .slice X.A2 X.l2.length X.c2, .slice X.A3 X.l3.length X.c3, .slice X.A4 X.l4.length X.c4, .slice X.A5 X.l5.length X.c5, .slice X.A6 X.l6.length X.c6, .int .i64 X.d7, .slice X.A8 X.l8.length X.c8, .slice AP ps.length cP, .slice AL ls.length cL, .slice AR rs.length cR, .slice AD dp.length cD, .slice AS st.length cS, .bool dead] 33)).alloc (.cells #[.int .i64 I.op, .int .u32 I.x, .int .u32 I.y, I.v3, I.v4, I.v5, I.v6, I.v7, I.v8, I.v9, I.v10, I.v11, I.v12, I.v13, .slice I.AL I.ls.length I.cL, I.v15, I.v16] 46)).cell? ⟨w.heap.size, 2, none⟩ = some (.slice X.A2 X.l2.length X.c2) := by rw [← hW]; exact (blk_cell hq0 2).trans rfl
 have x3 : ((w.alloc (.cells #[.slice X.A0 X.l0.length X.c0, .slice X.A1 X.l1.length X.c1, .slice X.A2 X.l2.length X.c2, .slice X.A3 X.l3.length X.c3, .slice X.A4 X.l4.length X.c4, .slice X.A5 X.l5.length X.c5, .slice X.A6 X.l6.length X.c6, .int .i64 X.d7, .slice X.A8 X.l8.length X.c8, .slice AP ps.length cP, .slice AL ls.length cL, .slice AR rs.length cR, .slice AD dp.length cD, .slice AS st.length cS, .bool dead] 33)).alloc (.cells #[.int .i64 I.op, .int .u32 I.x, .int .u32 I.y, I.v3, I.v4, I.v5, I.v6, I.v7, I.v8, I.v9, I.v10, I.v11, I.v12, I.v13, .slice I.AL I.ls.length I.cL, I.v15, I.v16] 46)).cell? ⟨w.heap.size, 3, none⟩ = some (.slice X.A3 X.l3.length X.c3) := by rw [← hW]; exact (blk_cell hq0 3).trans rfl
 have x4 : ((w.alloc (.cells #[.slice X.A0 X.l0.length X.c0, .slice X.A1 X.l1.length X.c1, .slice X.A2 X.l2.length X.c2, .slice X.A3 X.l3.length X.c3, .slice X.A4 X.l4.length X.c4, .slice X.A5 X.l5.length X.c5, .slice X.A6 X.l6.length X.c6, .int .i64 X.d7, .slice X.A8 X.l8.length X.c8, .slice AP ps.length cP, .slice AL ls.length cL, .slice AR rs.length cR, .slice AD dp.length cD, .slice AS st.length cS, .bool dead] 33)).alloc (.cells #[.int .i64 I.op, .int .u32 I.x, .int .u32 I.y, I.v3, I.v4, I.v5, I.v6, I.v7, I.v8, I.v9, I.v10, I.v11, I.v12, I.v13, .slice I.AL I.ls.length I.cL, I.v15, I.v16] 46)).cell? ⟨w.heap.size, 4, none⟩ = some (.slice X.A4 X.l4.length X.c4) := by rw [← hW]; exact (blk_cell hq0 4).trans rfl
 have x5 : ((w.alloc (.cells #[.slice X.A0 X.l0.length X.c0, .slice X.A1 X.l1.length X.c1, .slice X.A2 X.l2.length X.c2, .slice X.A3 X.l3.length X.c3, .slice X.A4 X.l4.length X.c4, .slice X.A5 X.l5.length X.c5, .slice X.A6 X.l6.length X.c6, .int .i64 X.d7, .slice X.A8 X.l8.length X.c8, .slice AP ps.length cP, .slice AL ls.length cL, .slice AR rs.length cR, .slice AD dp.length cD, .slice AS st.length cS, .bool dead] 33)).alloc (.cells #[.int .i64 I.op, .int .u32 I.x, .int .u32 I.y, I.v3, I.v4, I.v5, I.v6, I.v7, I.v8, I.v9, I.v10, I.v11, I.v12, I.v13, .slice I.AL I.ls.length I.cL, I.v15, I.v16] 46)).cell? ⟨w.heap.size, 5, none⟩ = some (.slice X.A5 X.l5.length X.c5) := by rw [← hW]; exact (blk_cell hq0 5).trans rfl
 have x6 : ((w.alloc (.cells #[.slice X.A0 X.l0.length X.c0, .slice X.A1 X.l1.length X.c1, .slice X.A2 X.l2.length X.c2, .slice X.A3 X.l3.length X.c3, .slice X.A4 X.l4.length X.c4, .slice X.A5 X.l5.length X.c5, .slice X.A6 X.l6.length X.c6, .int .i64 X.d7, .slice X.A8 X.l8.length X.c8, .slice AP ps.length cP, .slice AL ls.length cL, .slice AR rs.length cR, .slice AD dp.length cD, .slice AS st.length cS, .bool dead] 33)).alloc (.cells #[.int .i64 I.op, .int .u32 I.x, .int .u32 I.y, I.v3, I.v4, I.v5, I.v6, I.v7, I.v8, I.v9, I.v10, I.v11, I.v12, I.v13, .slice I.AL I.ls.length I.cL, I.v15, I.v16] 46)).cell? ⟨w.heap.size, 6, none⟩ = some (.slice X.A6 X.l6.length X.c6) := by rw [← hW]; exact (blk_cell hq0 6).trans rfl
 have x7 : ((w.alloc (.cells #[.slice X.A0 X.l0.length X.c0, .slice X.A1 X.l1.length X.c1, .slice X.A2 X.l2.length X.c2, .slice X.A3 X.l3.length X.c3, .slice X.A4 X.l4.length X.c4, .slice X.A5 X.l5.length X.c5, .slice X.A6 X.l6.length X.c6, .int .i64 X.d7, .slice X.A8 X.l8.length X.c8, .slice AP ps.length cP, .slice AL ls.length cL, .slice AR rs.length cR, .slice AD dp.length cD, .slice AS st.length cS, .bool dead] 33)).alloc (.cells #[.int .i64 I.op, .int .u32 I.x, .int .u32 I.y, I.v3, I.v4, I.v5, I.v6, I.v7, I.v8, I.v9, I.v10, I.v11, I.v12, I.v13, .slice I.AL I.ls.length I.cL, I.v15, I.v16] 46)).cell? ⟨w.heap.size, 7, none⟩ = some (.int .i64 X.d7) := by rw [← hW]; exact (blk_cell hq0 7).trans rfl
 have x8 : ((w.alloc (.cells #[.slice X.A0 X.l0.length X.c0, .slice X.A1 X.l1.length X.c1, .slice X.A2 X.l2.length X.c2, .slice X.A3 X.l3.length X.c3, .slice X.A4 X.l4.length X.c4, .slice X.A5 X.l5.length X.c5, .slice X.A6 X.l6.length X.c6, .int .i64 X.d7, .slice X.A8 X.l8.length X.c8, .slice AP ps.length cP, .slice AL ls.length cL, .slice AR rs.length cR, .slice AD dp.length cD, .slice AS st.length cS, .bool dead] 33)).alloc (.cells #[.int .i64 I.op, .int .u32 I.x, .int .u32 I.y, I.v3, I.v4, I.v5, I.v6, I.v7, I.v8, I.v9, I.v10, I.v11, I.v12, I.v13, .slice I.AL I.ls.length I.cL, I.v15, I.v16] 46)).cell? ⟨w.heap.size, 8, none⟩ = some (.slice X.A8 X.l8.length X.c8) := by rw [← hW]; exact (blk_cell hq0 8).trans rfl
 clear h b1 hq0 hq1
 go_enter Tryz.func4, Tryz.ntmps4
 go_wp2_with fail
 rw [← hW]
 clear hW x0 x1 x2 x3 x4 x5 x6 x7 x8
 refine KO.mono ?_
 rintro e w2 ⟨⟨b, rfl, hbc⟩, hb⟩
 have B2 := Aside0.mk (B1.out.trans (hb.mono B1.out.size))
 have HQ2 := Aside0.mk (And.intro (blk_below HQ.out.1 hb) (blk_below HQ.out.2 hb))
 have HBC := Aside0.mk hbc
 clear KO hb hbc HQ
 cases b with
 | true =>
  have KA := awake15_calls w2
  go_wp2_with fail
  refine KA.mono ?_
  rintro e w3 ⟨rfl, hb⟩
  have B3 := Aside0.mk (B2.out.trans (hb.mono B2.out.size))
  clear KA hb
  go_wp2_with fail
  go_ret
  exact ⟨rfl, B3.out⟩
 | false =>
  have HG := Aside0.mk (H.out.gok (HBC.out.1 rfl))
  have KB := begin_calls X.A0 X.c0 X.l0 X.A1 X.c1 X.l1 X.A2 X.c2 X.l2 X.A3 X.c3 X.l3 X.A4 X.c4 X.l4 X.A5 X.c5 X.l5 X.A6 X.c6 X.l6 X.d7 X.A8 X.c8 X.l8 AP cP ps AL cL ls AR cR rs AD cD dp AS cS st dead w2 (H.out.x.below B2.out) (H.out.wr.below B2.out) HG.out H.out.rts (fun w' hb => H.out.tab w' (B2.out.trans (hb.mono B2.out.size)))
  have x0 : w2.cell? ⟨w.heap.size, 0, none⟩ = some (.slice X.A0 X.l0.length X.c0) := (blk_cell HQ2.out.1 0).trans rfl
  have x1 : w2.cell? ⟨w.heap.size, 1, none⟩ = some (.slice X.A1 X.l1.length X.c1) := (blk_cell HQ2.out.1 1).trans rfl
  have x2 : w2.cell? ⟨w.heap.size, 2, none⟩ = some (.slice X.A2 X.l2.length X.c2) := (blk_cell HQ2.out.1 2).trans rfl
  have x3 : w2.cell? ⟨w.heap.size, 3, none⟩ = some (.slice X.A3 X.l3.length X.c3) := (blk_cell HQ2.out.1 3).trans rfl
  have x4 : w2.cell? ⟨w.heap.size, 4, none⟩ = some (.slice X.A4 X.l4.length X.c4) := (blk_cell HQ2.out.1 4).trans rfl
  have x5 : w2.cell? ⟨w.heap.size, 5, none⟩ = some (.slice X.A5 X.l5.length X.c5) := (blk_cell HQ2.out.1 5).trans rfl
  have x6 : w2.cell? ⟨w.heap.size, 6, none⟩ = some (.slice X.A6 X.l6.length X.c6) := (blk_cell HQ2.out.1 6).trans rfl
  have x7 : w2.cell? ⟨w.heap.size, 7, none⟩ = some (.int .i64 X.d7) := (blk_cell HQ2.out.1 7).trans rfl
  have x8 : w2.cell? ⟨w.heap.size, 8, none⟩ = some (.slice X.A8 X.l8.length X.c8) := (blk_cell HQ2.out.1 8).trans rfl
  have x9 : w2.cell? ⟨w.heap.size, 9, none⟩ = some (.slice AP ps.length cP) := (blk_cell HQ2.out.1 9).trans rfl
  have x10 : w2.cell? ⟨w.heap.size, 10, none⟩ = some (.slice AL ls.length cL) := (blk_cell HQ2.out.1 10).trans rfl
  have x11 : w2.cell? ⟨w.heap.size, 11, none⟩ = some (.slice AR rs.length cR) := (blk_cell HQ2.out.1 11).trans rfl
  have x12 : w2.cell? ⟨w.heap.size, 12, none⟩ = some (.slice AD dp.length cD) := (blk_cell HQ2.out.1 12).trans rfl
  have x13 : w2.cell? ⟨w.heap.size, 13, none⟩ = some (.slice AS st.length cS) := (blk_cell HQ2.out.1 13).trans rfl
  have x14 : w2.cell? ⟨w.heap.size, 14, none⟩ = some (.bool dead) := (blk_cell HQ2.out.1 14).trans rfl
  go_wp2_with fail
  refine KB.mono ?_
  rintro e w3 ⟨g, d, S, rfl, ht⟩
  obtain ⟨k, hk⟩ : ∃ k, k = begK X.l0 ps ls rs dp st dead := ⟨_, rfl⟩
  rw [← hk] at ht
  have HKE := Aside0.mk hk
  have T3 := Aside0.mk ht
  have TD := Aside0.mk (ht.down B2.out)
  have HQ3 := Aside0.mk (And.intro (blk_below HQ2.out.1 ht.bel) (blk_below HQ2.out.2 ht.bel))
  have NS : Aside0 (¬ S w.heap.size ∧ ¬ S (w.heap.size + 1)) := ⟨fun e => by have := ht.nS _ e; have := blk_lt HQ2.out.1; omega, fun e => by have := ht.nS _ e; have := blk_lt HQ2.out.2; omega⟩
  obtain ⟨f, hF, h0, hd⟩ := begK_fit HG.out H.out.wr dead
  rw [← hk] at hF
  have HF := Aside0.mk (And.intro hF (And.intro h0 hd))
  have KS := vStep_calls (w1 := w) ht.st hF H.out.xk TD.out.bel (fun y e => e.elim (TD.out.nS y) (fun e => by rw [e]; exact TD.out.nd)) HG.out H.out.op
  obtain ⟨er, k1, hs⟩ : ∃ er k1, stepM X I k f = (er, k1) := ⟨_, _, rfl⟩
  rw [hs] at KS
  have HS := Aside0.mk hs
  clear hk ht hF h0 hd hs KB x0 x1 x2 x3 x4 x5 x6 x7 x8 x9 x10 x11 x12 x13 x14
  have x0 : w3.cell? ⟨w.heap.size, 0, none⟩ = some (.slice X.A0 X.l0.length X.c0) := (blk_cell HQ3.out.1 0).trans rfl
  have x1 : w3.cell? ⟨w.heap.size, 1, none⟩ = some (.slice X.A1 X.l1.length X.c1) := (blk_cell HQ3.out.1 1).trans rfl
  have x2 : w3.cell? ⟨w.heap.size, 2, none⟩ = some (.slice X.A2 X.l2.length X.c2) := (blk_cell HQ3.out.1 2).trans rfl
  have x3 : w3.cell? ⟨w.heap.size, 3, none⟩ = some (.slice X.A3 X.l3.length X.c3) := (blk_cell HQ3.out.1 3).trans rfl
  have x4 : w3.cell? ⟨w.heap.size, 4, none⟩ = some (.slice X.A4 X.l4.length X.c4) := (blk_cell HQ3.out.1 4).trans rfl
  have x5 : w3.cell? ⟨w.heap.size, 5, none⟩ = some (.slice X.A5 X.l5.length X.c5) := (blk_cell HQ3.out.1 5).trans rfl
  have x6 : w3.cell? ⟨w.heap.size, 6, none⟩ = some (.slice X.A6 X.l6.length X.c6) := (blk_cell HQ3.out.1 6).trans rfl
  have x7 : w3.cell? ⟨w.heap.size, 7, none⟩ = some (.int .i64 X.d7) := (blk_cell HQ3.out.1 7).trans rfl
  have x8 : w3.cell? ⟨w.heap.size, 8, none⟩ = some (.slice X.A8 X.l8.length X.c8) := (blk_cell HQ3.out.1 8).trans rfl
  have y0 : w3.cell? ⟨w.heap.size + 1, 0, none⟩ = some (.int .i64 I.op) := (blk_cell HQ3.out.2 0).trans rfl
  have y1 : w3.cell? ⟨w.heap.size + 1, 1, none⟩ = some (.int .u32 I.x) := (blk_cell HQ3.out.2 1).trans rfl
  have y2 : w3.cell? ⟨w.heap.size + 1, 2, none⟩ = some (.int .u32 I.y) := (blk_cell HQ3.out.2 2).trans rfl
  have y3 : w3.cell? ⟨w.heap.size + 1, 3, none⟩ = some (I.v3) := (blk_cell HQ3.out.2 3).trans rfl
  have y4 : w3.cell? ⟨w.heap.size + 1, 4, none⟩ = some (I.v4) := (blk_cell HQ3.out.2 4).trans rfl
  have y5 : w3.cell? ⟨w.heap.size + 1, 5, none⟩ = some (I.v5) := (blk_cell HQ3.out.2 5).trans rfl
  have y6 : w3.cell? ⟨w.heap.size + 1, 6, none⟩ = some (I.v6) := (blk_cell HQ3.out.2 6).trans rfl
  have y7 : w3.cell? ⟨w.heap.size + 1, 7, none⟩ = some (I.v7) := (blk_cell HQ3.out.2 7).trans rfl
  have y8 : w3.cell? ⟨w.heap.size + 1, 8, none⟩ = some (I.v8) := (blk_cell HQ3.out.2 8).trans rfl
  have y9 : w3.cell? ⟨w.heap.size + 1, 9, none⟩ = some (I.v9) := (blk_cell HQ3.out.2 9).trans rfl
  have y10 : w3.cell? ⟨w.heap.size + 1, 10, none⟩ = some (I.v10) := (blk_cell HQ3.out.2 10).trans rfl
  have y11 : w3.cell? ⟨w.heap.size + 1, 11, none⟩ = some (I.v11) := (blk_cell HQ3.out.2 11).trans rfl
  have y12 : w3.cell? ⟨w.heap.size + 1, 12, none⟩ = some (I.v12) := (blk_cell HQ3.out.2 12).trans rfl
  have y13 : w3.cell? ⟨w.heap.size + 1, 13, none⟩ = some (I.v13) := (blk_cell HQ3.out.2 13).trans rfl
  have y14 : w3.cell? ⟨w.heap.size + 1, 14, none⟩ = some (.slice I.AL I.ls.length I.cL) := (blk_cell HQ3.out.2 14).trans rfl
  have y15 : w3.cell? ⟨w.heap.size + 1, 15, none⟩ = some (I.v15) := (blk_cell HQ3.out.2 15).trans rfl
  have y16 : w3.cell? ⟨w.heap.size + 1, 16, none⟩ = some (I.v16) := (blk_cell HQ3.out.2 16).trans rfl
  try generalize (Value.agg #[.slice X.A0 X.l0.length X.c0, .slice X.A1 X.l1.length X.c1, .slice X.A2 X.l2.length X.c2, .slice X.A3 X.l3.length X.c3, .slice X.A4 X.l4.length X.c4, .slice X.A5 X.l5.length X.c5, .slice X.A6 X.l6.length X.c6, .int .i64 X.d7, .slice X.A8 X.l8.length X.c8, .slice AP ps.length cP, .slice AL ls.length cL, .slice AR rs.length cR, .slice AD dp.length cD, .slice AS st.length cS, .bool dead]) = vW_
  try generalize (Value.agg #[.slice X.A0 X.l0.length X.c0, .slice X.A1 X.l1.length X.c1, .slice X.A2 X.l2.length X.c2, .slice X.A3 X.l3.length X.c3, .slice X.A4 X.l4.length X.c4, .slice X.A5 X.l5.length X.c5, .slice X.A6 X.l6.length X.c6, .int .i64 X.d7, .slice X.A8 X.l8.length X.c8]) = vX_
  try generalize (Value.agg #[.int .i64 I.op, .int .u32 I.x, .int .u32 I.y, I.v3, I.v4, I.v5, I.v6, I.v7, I.v8, I.v9, I.v10, I.v11, I.v12, I.v13, .slice I.AL I.ls.length I.cL, I.v15, I.v16]) = vI_
  unfold SOut at KS
  dsimp only at KS
  go_wp2_with fail
  refine KS.mono ?_
  rintro e w4 ⟨rfl, S4, q4⟩
  have Q4 := Aside0.mk q4
  have HQ4 := Aside0.mk (And.intro (q4.chg.blk HQ3.out.1 NS.out.1) (q4.chg.blk HQ3.out.2 NS.out.2))
  have B4 : Aside0 (Below w.heap.size w w4) := ⟨below_chg ((Chg.of_below TD.out.bel (fun _ => False)).trans (K := S) q4.chg (fun _ e => e.elim) (fun x e => .inl e)) (Nat.le_refl _) (fun x e => TD.out.nS x e)⟩
  clear KS q4 x0 x1 x2 x3 x4 x5 x6 x7 x8 y0 y1 y2 y3 y4 y5 y6 y7 y8 y9 y10 y11 y12 y13 y14 y15 y16
  try generalize (Value.agg #[.slice X.A0 X.l0.length X.c0, .slice X.A1 X.l1.length X.c1, .slice X.A2 X.l2.length X.c2, .slice X.A3 X.l3.length X.c3, .slice X.A4 X.l4.length X.c4, .slice X.A5 X.l5.length X.c5, .slice X.A6 X.l6.length X.c6, .int .i64 X.d7, .slice X.A8 X.l8.length X.c8, .slice AP ps.length cP, .slice AL ls.length cL, .slice AR rs.length cR, .slice AD dp.length cD, .slice AS st.length cS, .bool dead]) = vW_
  try generalize (Value.agg #[.slice X.A0 X.l0.length X.c0, .slice X.A1 X.l1.length X.c1, .slice X.A2 X.l2.length X.c2, .slice X.A3 X.l3.length X.c3, .slice X.A4 X.l4.length X.c4, .slice X.A5 X.l5.length X.c5, .slice X.A6 X.l6.length X.c6, .int .i64 X.d7, .slice X.A8 X.l8.length X.c8]) = vX_
  try generalize (Value.agg #[.int .i64 I.op, .int .u32 I.x, .int .u32 I.y, I.v3, I.v4, I.v5, I.v6, I.v7, I.v8, I.v9, I.v10, I.v11, I.v12, I.v13, .slice I.AL I.ls.length I.cL, I.v15, I.v16]) = vI_
  have x0 : w4.cell? ⟨w.heap.size, 0, none⟩ = some (.slice X.A0 X.l0.length X.c0) := (blk_cell HQ4.out.1 0).trans rfl
  have x1 : w4.cell? ⟨w.heap.size, 1, none⟩ = some (.slice X.A1 X.l1.length X.c1) := (blk_cell HQ4.out.1 1).trans rfl
  have x2 : w4.cell? ⟨w.heap.size, 2, none⟩ = some (.slice X.A2 X.l2.length X.c2) := (blk_cell HQ4.out.1 2).trans rfl
  have x3 : w4.cell? ⟨w.heap.size, 3, none⟩ = some (.slice X.A3 X.l3.length X.c3) := (blk_cell HQ4.out.1 3).trans rfl
  have x4 : w4.cell? ⟨w.heap.size, 4, none⟩ = some (.slice X.A4 X.l4.length X.c4) := (blk_cell HQ4.out.1 4).trans rfl
  have x5 : w4.cell? ⟨w.heap.size, 5, none⟩ = some (.slice X.A5 X.l5.length X.c5) := (blk_cell HQ4.out.1 5).trans rfl
  have x6 : w4.cell? ⟨w.heap.size, 6, none⟩ = some (.slice X.A6 X.l6.length X.c6) := (blk_cell HQ4.out.1 6).trans rfl
  have x7 : w4.cell? ⟨w.heap.size, 7, none⟩ = some (.int .i64 X.d7) := (blk_cell HQ4.out.1 7).trans rfl
  have x8 : w4.cell? ⟨w.heap.size, 8, none⟩ = some (.slice X.A8 X.l8.length X.c8) := (blk_cell HQ4.out.1 8).trans rfl
  have x9 : w4.cell? ⟨w.heap.size, 9, none⟩ = some (.slice AP ps.length cP) := (blk_cell HQ4.out.1 9).trans rfl
  have x10 : w4.cell? ⟨w.heap.size, 10, none⟩ = some (.slice AL ls.length cL) := (blk_cell HQ4.out.1 10).trans rfl
  have x11 : w4.cell? ⟨w.heap.size, 11, none⟩ = some (.slice AR rs.length cR) := (blk_cell HQ4.out.1 11).trans rfl
  have x12 : w4.cell? ⟨w.heap.size, 12, none⟩ = some (.slice AD dp.length cD) := (blk_cell HQ4.out.1 12).trans rfl
  have x13 : w4.cell? ⟨w.heap.size, 13, none⟩ = some (.slice AS st.length cS) := (blk_cell HQ4.out.1 13).trans rfl
  have x14 : w4.cell? ⟨w.heap.size, 14, none⟩ = some (.bool dead) := (blk_cell HQ4.out.1 14).trans rfl
  go_upto_region 8 with fail
  obtain ⟨w5, hw5⟩ : ∃ w5, w5 = w4.alloc (.cells #[.slice X.A0 X.l0.length X.c0, .slice X.A1 X.l1.length X.c1, .slice X.A2 X.l2.length X.c2, .slice X.A3 X.l3.length X.c3, .slice X.A4 X.l4.length X.c4, .slice X.A5 X.l5.length X.c5, .slice X.A6 X.l6.length X.c6, .int .i64 X.d7, .slice X.A8 X.l8.length X.c8, .slice AP ps.length cP, .slice AL ls.length cL, .slice AR rs.length cR, .slice AD dp.length cD, .slice none 0 0, .bool true] 33) := ⟨_, rfl⟩
  rw [← hw5]
  have b5 : Below w4.heap.size w4 w5 := by rw [hw5]; exact bz_
  have q5 : w5.heap[w4.heap.size]? = some (.cells #[.slice X.A0 X.l0.length X.c0, .slice X.A1 X.l1.length X.c1, .slice X.A2 X.l2.length X.c2, .slice X.A3 X.l3.length X.c3, .slice X.A4 X.l4.length X.c4, .slice X.A5 X.l5.length X.c5, .slice X.A6 X.l6.length X.c6, .int .i64 X.d7, .slice X.A8 X.l8.length X.c8, .slice AP ps.length cP, .slice AL ls.length cL, .slice AR rs.length cR, .slice AD dp.length cD, .slice none 0 0, .bool true] 33 (0, 0)) := by rw [hw5]; exact blk_new w4 _
  have Q5 := Aside0.mk q5
  have B5 := Aside0.mk (B4.out.trans (b5.mono B4.out.size))
  have HI5 := Aside0.mk (blk_below HQ4.out.2 b5)
  have KB : Calls Tryz.prog 10 #[.agg #[.slice X.A0 X.l0.length X.c0, .slice X.A1 X.l1.length X.c1, .slice X.A2 X.l2.length X.c2, .slice X.A3 X.l3.length X.c3, .slice X.A4 X.l4.length X.c4, .slice X.A5 X.l5.length X.c5, .slice X.A6 X.l6.length X.c6, .int .i64 X.d7, .slice X.A8 X.l8.length X.c8, .slice AP ps.length cP, .slice AL ls.length cL, .slice AR rs.length cR, .slice AD dp.length cD, .slice none 0 0, .bool true]] w5 (BegOut (begK X.l0 ps ls rs dp [] true) w5) := begin_calls X.A0 X.c0 X.l0 X.A1 X.c1 X.l1 X.A2 X.c2 X.l2 X.A3 X.c3 X.l3 X.A4 X.c4 X.l4 X.A5 X.c5 X.l5 X.A6 X.c6 X.l6 X.d7 X.A8 X.c8 X.l8 AP cP ps AL cL ls AR cR rs AD cD dp none 0 [] true w5 (H.out.x.below B5.out) (H.out.wr.none.below B5.out) HG.out H.out.rts (fun w' hb => H.out.tab w' (B5.out.trans (hb.mono B5.out.size)))
  clear x0 x1 x2 x3 x4 x5 x6 x7 x8 x9 x10 x11 x12 x13 x14 b5 q5 hw5
  try generalize (Value.agg #[.slice X.A0 X.l0.length X.c0, .slice X.A1 X.l1.length X.c1, .slice X.A2 X.l2.length X.c2, .slice X.A3 X.l3.length X.c3, .slice X.A4 X.l4.length X.c4, .slice X.A5 X.l5.length X.c5, .slice X.A6 X.l6.length X.c6, .int .i64 X.d7, .slice X.A8 X.l8.length X.c8, .slice AP ps.length cP, .slice AL ls.length cL, .slice AR rs.length cR, .slice AD dp.length cD, .slice AS st.length cS, .bool dead]) = vW_
  as_aux_lemma =>
   have x0 : w5.cell? ⟨w4.heap.size, 0, none⟩ = some (.slice X.A0 X.l0.length X.c0) := (blk_cell Q5.out 0).trans rfl
   have x1 : w5.cell? ⟨w4.heap.size, 1, none⟩ = some (.slice X.A1 X.l1.length X.c1) := (blk_cell Q5.out 1).trans rfl
   have x2 : w5.cell? ⟨w4.heap.size, 2, none⟩ = some (.slice X.A2 X.l2.length X.c2) := (blk_cell Q5.out 2).trans rfl
   have x3 : w5.cell? ⟨w4.heap.size, 3, none⟩ = some (.slice X.A3 X.l3.length X.c3) := (blk_cell Q5.out 3).trans rfl
   have x4 : w5.cell? ⟨w4.heap.size, 4, none⟩ = some (.slice X.A4 X.l4.length X.c4) := (blk_cell Q5.out 4).trans rfl
   have x5 : w5.cell? ⟨w4.heap.size, 5, none⟩ = some (.slice X.A5 X.l5.length X.c5) := (blk_cell Q5.out 5).trans rfl
   have x6 : w5.cell? ⟨w4.heap.size, 6, none⟩ = some (.slice X.A6 X.l6.length X.c6) := (blk_cell Q5.out 6).trans rfl
   have x7 : w5.cell? ⟨w4.heap.size, 7, none⟩ = some (.int .i64 X.d7) := (blk_cell Q5.out 7).trans rfl
   have x8 : w5.cell? ⟨w4.heap.size, 8, none⟩ = some (.slice X.A8 X.l8.length X.c8) := (blk_cell Q5.out 8).trans rfl
   have x9 : w5.cell? ⟨w4.heap.size, 9, none⟩ = some (.slice AP ps.length cP) := (blk_cell Q5.out 9).trans rfl
   have x10 : w5.cell? ⟨w4.heap.size, 10, none⟩ = some (.slice AL ls.length cL) := (blk_cell Q5.out 10).trans rfl
   have x11 : w5.cell? ⟨w4.heap.size, 11, none⟩ = some (.slice AR rs.length cR) := (blk_cell Q5.out 11).trans rfl
   have x12 : w5.cell? ⟨w4.heap.size, 12, none⟩ = some (.slice AD dp.length cD) := (blk_cell Q5.out 12).trans rfl
   have x13 : w5.cell? ⟨w4.heap.size, 13, none⟩ = some (.slice none 0 0) := (blk_cell Q5.out 13).trans rfl
   have x14 : w5.cell? ⟨w4.heap.size, 14, none⟩ = some (.bool true) := (blk_cell Q5.out 14).trans rfl
   go_wp2_with fail
   refine KB.mono ?_
   rintro e w6 ⟨g2, d2, T, rfl, ht⟩
   obtain ⟨k2, hk2⟩ : ∃ k2, k2 = begK X.l0 ps ls rs dp [] true := ⟨_, rfl⟩
   rw [← hk2] at ht
   have HK2 := Aside0.mk hk2
   have T6 := Aside0.mk (ht.down B5.out)
   have Q6 := Aside0.mk (blk_below Q5.out ht.bel)
   have HI6 := Aside0.mk (blk_below HI5.out ht.bel)
   obtain ⟨f2, hF2, h0, hd⟩ := begK_fit HG.out H.out.wr.none true
   rw [← hk2] at hF2
   have HF2 := Aside0.mk (And.intro hF2 (And.intro h0 hd))
   have KS := vStep_calls (w1 := w) ht.st hF2 H.out.xk T6.out.bel (fun y e => e.elim (T6.out.nS y) (fun e => by rw [e]; exact T6.out.nd)) HG.out H.out.op
   obtain ⟨er2, k3, hs⟩ : ∃ er2 k3, stepM X I k2 f2 = (er2, k3) := ⟨_, _, rfl⟩
   rw [hs] at KS
   have HS2 := Aside0.mk hs
   clear hk2 ht hF2 h0 hd hs KB x0 x1 x2 x3 x4 x5 x6 x7 x8 x9 x10 x11 x12 x13 x14
   have x0 : w6.cell? ⟨w4.heap.size, 0, none⟩ = some (.slice X.A0 X.l0.length X.c0) := (blk_cell Q6.out 0).trans rfl
   have x1 : w6.cell? ⟨w4.heap.size, 1, none⟩ = some (.slice X.A1 X.l1.length X.c1) := (blk_cell Q6.out 1).trans rfl
   have x2 : w6.cell? ⟨w4.heap.size, 2, none⟩ = some (.slice X.A2 X.l2.length X.c2) := (blk_cell Q6.out 2).trans rfl
   have x3 : w6.cell? ⟨w4.heap.size, 3, none⟩ = some (.slice X.A3 X.l3.length X.c3) := (blk_cell Q6.out 3).trans rfl
   have x4 : w6.cell? ⟨w4.heap.size, 4, none⟩ = some (.slice X.A4 X.l4.length X.c4) := (blk_cell Q6.out 4).trans rfl
   have x5 : w6.cell? ⟨w4.heap.size, 5, none⟩ = some (.slice X.A5 X.l5.length X.c5) := (blk_cell Q6.out 5).trans rfl
   have x6 : w6.cell? ⟨w4.heap.size, 6, none⟩ = some (.slice X.A6 X.l6.length X.c6) := (blk_cell Q6.out 6).trans rfl
   have x7 : w6.cell? ⟨w4.heap.size, 7, none⟩ = some (.int .i64 X.d7) := (blk_cell Q6.out 7).trans rfl
   have x8 : w6.cell? ⟨w4.heap.size, 8, none⟩ = some (.slice X.A8 X.l8.length X.c8) := (blk_cell Q6.out 8).trans rfl
   have y0 : w6.cell? ⟨w.heap.size + 1, 0, none⟩ = some (.int .i64 I.op) := (blk_cell HI6.out 0).trans rfl
   have y1 : w6.cell? ⟨w.heap.size + 1, 1, none⟩ = some (.int .u32 I.x) := (blk_cell HI6.out 1).trans rfl
   have y2 : w6.cell? ⟨w.heap.size + 1, 2, none⟩ = some (.int .u32 I.y) := (blk_cell HI6.out 2).trans rfl
   have y3 : w6.cell? ⟨w.heap.size + 1, 3, none⟩ = some (I.v3) := (blk_cell HI6.out 3).trans rfl
   have y4 : w6.cell? ⟨w.heap.size + 1, 4, none⟩ = some (I.v4) := (blk_cell HI6.out 4).trans rfl
   have y5 : w6.cell? ⟨w.heap.size + 1, 5, none⟩ = some (I.v5) := (blk_cell HI6.out 5).trans rfl
   have y6 : w6.cell? ⟨w.heap.size + 1, 6, none⟩ = some (I.v6) := (blk_cell HI6.out 6).trans rfl
   have y7 : w6.cell? ⟨w.heap.size + 1, 7, none⟩ = some (I.v7) := (blk_cell HI6.out 7).trans rfl
   have y8 : w6.cell? ⟨w.heap.size + 1, 8, none⟩ = some (I.v8) := (blk_cell HI6.out 8).trans rfl
   have y9 : w6.cell? ⟨w.heap.size + 1, 9, none⟩ = some (I.v9) := (blk_cell HI6.out 9).trans rfl
   have y10 : w6.cell? ⟨w.heap.size + 1, 10, none⟩ = some (I.v10) := (blk_cell HI6.out 10).trans rfl
   have y11 : w6.cell? ⟨w.heap.size + 1, 11, none⟩ = some (I.v11) := (blk_cell HI6.out 11).trans rfl
   have y12 : w6.cell? ⟨w.heap.size + 1, 12, none⟩ = some (I.v12) := (blk_cell HI6.out 12).trans rfl
   have y13 : w6.cell? ⟨w.heap.size + 1, 13, none⟩ = some (I.v13) := (blk_cell HI6.out 13).trans rfl
   have y14 : w6.cell? ⟨w.heap.size + 1, 14, none⟩ = some (.slice I.AL I.ls.length I.cL) := (blk_cell HI6.out 14).trans rfl
   have y15 : w6.cell? ⟨w.heap.size + 1, 15, none⟩ = some (I.v15) := (blk_cell HI6.out 15).trans rfl
   have y16 : w6.cell? ⟨w.heap.size + 1, 16, none⟩ = some (I.v16) := (blk_cell HI6.out 16).trans rfl
   try generalize (Value.agg #[.slice X.A0 X.l0.length X.c0, .slice X.A1 X.l1.length X.c1, .slice X.A2 X.l2.length X.c2, .slice X.A3 X.l3.length X.c3, .slice X.A4 X.l4.length X.c4, .slice X.A5 X.l5.length X.c5, .slice X.A6 X.l6.length X.c6, .int .i64 X.d7, .slice X.A8 X.l8.length X.c8, .slice AP ps.length cP, .slice AL ls.length cL, .slice AR rs.length cR, .slice AD dp.length cD, .slice none 0 0, .bool true]) = vW0_
   unfold SOut at KS
   dsimp only at KS
   go_wp2_with fail
   refine KS.mono ?_
   rintro e w7 ⟨rfl, S7, q7⟩
   have B7 : Aside0 (Below w.heap.size w w7) := ⟨below_chg ((Chg.of_below T6.out.bel (fun _ => False)).trans (K := T) q7.chg (fun _ e => e.elim) (fun x e => .inl e)) (Nat.le_refl _) (fun x e => T6.out.nS x e)⟩
   clear KS q7 x0 x1 x2 x3 x4 x5 x6 x7 x8 y0 y1 y2 y3 y4 y5 y6 y7 y8 y9 y10 y11 y12 y13 y14 y15 y16
   try generalize (Value.agg #[.slice X.A0 X.l0.length X.c0, .slice X.A1 X.l1.length X.c1, .slice X.A2 X.l2.length X.c2, .slice X.A3 X.l3.length X.c3, .slice X.A4 X.l4.length X.c4, .slice X.A5 X.l5.length X.c5, .slice X.A6 X.l6.length X.c6, .int .i64 X.d7, .slice X.A8 X.l8.length X.c8]) = vX_
   try generalize (Value.agg #[.int .i64 I.op, .int .u32 I.x, .int .u32 I.y, I.v3, I.v4, I.v5, I.v6, I.v7, I.v8, I.v9, I.v10, I.v11, I.v12, I.v13, .slice I.AL I.ls.length I.cL, I.v15, I.v16]) = vI_
   by_cases he : er = 0
   ·have he2 : er2 = 0 := by
     have h1 := HS.out
     have h2 := HS2.out
     rw [HKE.out] at h1
     rw [HK2.out] at h2
     have h3 := dead_of (f := f) HF2.out.2.1 HF2.out.2.2 (by rw [h1]; exact he)
     rw [h2] at h3
     exact h3
    subst he he2
    have KA := awake15_calls w7
    go_wp2_with fail
    refine KA.mono ?_
    rintro e w9 ⟨rfl, hb⟩
    have B9 := Aside0.mk (B7.out.trans (hb.mono B7.out.size))
    clear KA hb
    go_wp2_with fail
    go_ret
    exact ⟨rfl, B9.out⟩
   ·have g0 : (er == 0) = false := beq_eq_false_iff_ne.mpr he
    have g1 : (er != 0) = true := bne_iff_ne.mpr he
    clear he
    have KA := awake15_calls w7
    go_wp2_with fail
    refine KA.mono ?_
    rintro e w9 ⟨rfl, hb⟩
    have B9 := Aside0.mk (B7.out.trans (hb.mono B7.out.size))
    clear KA hb
    go_wp2_with fail
    go_ret
    exact ⟨rfl, B9.out⟩
end
end Go.Proofs.YtohlmkcgempdlaaGreatDoor.Cn
