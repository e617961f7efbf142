/- Parts of the proof of vctlOpens_holds (7 of 22): what it says and shows stands at its declarations. -/
import Derived.Test.YtohlmkcgempdlaaGreatDoorZO6
import Derived.LoopTactic
namespace Go.Proofs.YtohlmkcgempdlaaGreatDoor.Cn
set_option linter.unusedSimpArgs false
set_option maxRecDepth 100000
set_option linter.unusedVariables false
open Go.RowKit Go.Proofs.YtohlmkcgempdlaaGreatDoorW.PrintWords Go.Proofs.YtohlmkcgempdlaaGreatDoorW.PrintLast Go.Proofs.YtohlmkcgempdlaaGreatDoorW.PrintMore Go.Proofs.YtohlmkcgempdlaaGreatDoor.QD
def Ah3 {σ : Type} (f : σ → Int → σ × Int) (s : σ) (x : S172) : σ × S172 := ((tval f s x.f0).1, ⟨(tval f s x.f0).2, x.f1⟩)
set_option maxHeartbeats 8000000 in
theorem Ay2 {base : Nat} {row : Option Nat} {σ : Type} {Q : Int → Prop} {St : σ → World → Prop} {f : σ → Int → σ × Int} {fv : Value} (C : Cb base row Q St f fv) (win : World) (s0 : σ) (fin : Bool) (kind : Int)
  (A1 : Option Addr) (c1 : Nat) (sup : List Int) (A2 : Option Addr) (c2 : Nat) (ps : List S39) (A3 : Option Addr) (c3 : Nat) (rs : List S39) (A4 : Option Addr) (c4 : Nat) (fs : List S172) (w : World) (hbase : base ≤ w.heap.size)
  (hwin : Below win.heap.size win w) (hrow : ∀ k, row = some k → win.heap.size ≤ k) (hs : St s0 w)
  (hr1 : Kd.C (Kd.int .i64) win A1 sup.length sup) (hr2 : Kd.C k39 win A2 ps.length ps) (hr3 : Kd.C k39 win A3 rs.length rs) (hr4 : Kd.C k172 win A4 fs.length fs)
  (hq1 : ∀ h ∈ sup, Q h) (hq2 : ∀ v ∈ ps, v.f0 = 5 → Q v.f2) (hq3 : ∀ v ∈ rs, v.f0 = 5 → Q v.f2) (hq4 : ∀ v ∈ fs, v.f0.f0 = 5 → Q v.f0.f2)
  (hl1 : sup.length * 8 ≤ 140737488351232) (hl2 : ps.length * 24 ≤ 140737488351232) (hl3 : rs.length * 24 ≤ 140737488351232) (hl4 : fs.length * 32 ≤ 140737488351232) :
  Calls Tryz.prog 108 #[.agg #[.bool fin, .slice A1 sup.length c1, .int .i64 kind, .slice A2 ps.length c2, .slice A3 rs.length c3, .slice A4 fs.length c4], fv] w fun e w' => ∃ v1 v2 v3 v4 : Value, e = .returned (.agg #[.bool fin, v1, .int .i64 kind, v2, v3, v4]) ∧
   Kd.R (Kd.int .i64) 3 w' w.heap.size (fun _ => True) v1 (Aa4 f s0 sup).2 ∧ Kd.R k39 39 w' w.heap.size (fun _ => True) v2 (Aa4 (tval f) (Aa4 f s0 sup).1 ps).2 ∧ Kd.R k39 39 w' w.heap.size (fun _ => True) v3 (Aa4 (tval f) (Aa4 (tval f) (Aa4 f s0 sup).1 ps).1 rs).2 ∧ Kd.R k172 172 w' w.heap.size (fun _ => True) v4 (Aa4 (Ah3 f) (Aa4 (tval f) (Aa4 (tval f) (Aa4 f s0 sup).1 ps).1 rs).1 fs).2 ∧
   St (Aa4 (Ah3 f) (Aa4 (tval f) (Aa4 (tval f) (Aa4 f s0 sup).1 ps).1 rs).1 fs).1 w' ∧ w.grownBy w' row := by
 have KT := mkTOk C hbase hwin hrow fin kind A1 c1 sup A2 c2 ps A3 c3 rs A4 c4 fs
 obtain ⟨k, cap, rfl, hcf, hcall⟩ := C.call
 have TS := T.start KT hwin hs
 have HQ1 := zA hq1
 have HQ2 := zA hq2
 have HQ3 := zA hq3
 have HQ4 := zA hq4
 have HCALL := zA hcall
 have HR1 := zA hr1
 have HR2 := zA hr2
 have HR3 := zA hr3
 have HR4 := zA hr4
 clear hq1 hq2 hq3 hq4 hcall hr1 hr2 hr3 hr4 hrow hs
 go_enter Tryz.func108, Tryz.ntmps108
 go_wp2_with fail
 go_loopw [26] (fun i W => ∃ (j : Nat) (v1 : Value), i = .int .i64 j ∧ j ≤ sup.length ∧ T (mkTX row St (.func (.func k) #[] cap) win w fin kind A1 c1 sup A2 c2 ps A3 c3 rs A4 c4 fs) v1 (.slice none 0 0) (.slice none 0 0) (.slice none 0 0) (Aa4 f s0 (sup.take j)).1 (Aa4 f s0 (sup.take j)).2 [] [] [] W) (fun i _ => sup.length - (intOf i).toNat)
 case atStart => exact ⟨0, _, rfl, Nat.zero_le _, TS⟩
 case round =>
  clear TS
  obtain ⟨j, v1, rfl, hj, hT⟩ := hrel
  by_cases hlt : j < sup.length
  ·obtain ⟨ad, x, rfl, hx, hcx0⟩ := Au7 HR1.out j hlt
   have hcx : wr.cell? (ad.add j) = some (.int .i64 x) := (hT.bin.cell (World.block_lt_of_cell? win _ hcx0)).trans hcx0
   have HX := zA hx
   clear hx hcx0
   have T0 := hT.drew KT
   go_wp2_with fail
   refine Ab3 (n := 9) (S := fun w' => w'.cell? ⟨w.heap.size + 1 + 1 + 1, 1, none⟩ = some v1 ∧ w'.cell? ⟨w.heap.size + 1, 0, none⟩ = some (.func (.func k) #[] cap)) (ds := [8]) (bm_ 9 0) (by kernel_rfl) rfl rfl ⟨(Aa0 T0.bo 1).trans rfl, (Aa0 T0.bt 0).trans rfl⟩ (fun hHeld => ?_)
   generalize wr.drew = w5 at T0 hHeld ⊢
   refine pz_ 0 30 9 1 ?_
   refine pz_ 3 33 9 9 ?_
   refine tz_ 1 31 9 11 hHeld ?_
   refine tz_ 2 32 9 15 hHeld ?_
   refine oz_ 4 34 9 31 fun K hK => ?_
   refine Ay9 hcf #[.int .i64 x] (#[.int .i64 x] ++ cap) (by rfl) rfl rfl (by rfl) (by simp only [List.map_toArray, List.map_cons, List.map_nil]; rfl) rfl ?_
   refine (HCALL.out _ x _ (Nat.le_trans hbase T0.size) (HQ1.out x (List.mem_of_getElem? HX.out)) T0.st).mono ?_
   rintro e w6 ⟨rfl, hS, hgr⟩
   refine ⟨_, rfl, ?_⟩
   have T1 := T0.cb KT hgr hS
   clear hS hgr
   refine hK.out _ _ ⟨(Aa0 T1.bo 1).trans rfl, (Aa0 T1.bt 0).trans rfl⟩ (fun hHeld => ?_)
   clear hK K
   refine nz_ ?_
   refine oz_ 5 35 9 63 fun K hK => ?_
   refine vz_ ?_
   refine hK.out _ _ ⟨(Aa0 (T1.alloc KT _).bo 1).trans rfl, (Aa0 (T1.alloc KT _).bt 0).trans rfl⟩ (fun hHeld => ?_)
   clear hK K
   refine nz_ ?_
   refine oz_ 6 36 9 127 fun K hK => ?_
   refine Kd.Ab9 (Kd.int .i64) (w0 := w6) w.heap.size (by rfl) (.tmp 31) (.tmp 35) 23 3 (.int .i64 0) 8 rfl Tryz.underlying23 Ax8 rfl (by decide) (by omega) v1 _ (f (Aa4 f s0 (sup.take j)).1 x).2 [.int .i64 (f (Aa4 f s0 (sup.take j)).1 x).2] (fun _ => True) (fun _ => False) rfl rfl rfl (fun _ hk => hk.elim) (fun _ _ => trivial) T1.r1 (Below.refl _ _) T1.size (by rw [Ag3, List.length_take]; omega) ?_
   intro v5 w7 ho _ hg hat
   obtain ⟨l5, hl5⟩ : ∃ l_ : List Int, l_ = (Aa4 f s0 (sup.take j)).2 ++ [(f (Aa4 f s0 (sup.take j)).1 x).2] := ⟨_, rfl⟩
   rw [← hl5] at ho
   have HL5 := zA hl5
   clear hl5
   obtain ⟨bs, bt, bo, br⟩ := T1.blocks T1.r1 (by decide) (by decide) hg
   have T3 := T1.put1 KT ho hg
   obtain ⟨A5, c5, e5⟩ := Kd.Aa9 ho
   subst e5
   refine hK.out _ _ ⟨(Aa0 bo 1).trans rfl, (Aa0 bt 0).trans rfl⟩ (fun hHeld => ?_)
   clear hK K
   refine nz_ ?_
   refine pz_ 7 37 9 255 ?_
   refine Ag8 (i := 8) (N := none) (bm_ 9 511) rfl rfl (by kernel_rfl) (by decide) (fun K hK => ?_)
   have hs_ : w7.cell? ⟨w.heap.size + 1 + 1 + 1, 1, none⟩ = some v1 := (Aa0 bo 1).trans rfl
   have hfs_ : w7.frozen? ⟨w.heap.size + 1 + 1 + 1, 1, none⟩ = false := Aa1 bo 1
   refine sz_ ?_
   refine hK.out _ _ ?_
   clear hK K
   refine dz_ ?_
   go_wp2_with fail
   go_roundw
   case rel => exact ⟨j + 1, _, by go_num, by omega, by have e := Ai5 f s0 sup j x HX.out; rw [e]; dsimp only; rw [← HL5.out]; exact T3⟩
   case measure => simp [intOf]; omega
  ·obtain rfl : j = sup.length := by omega
   rw [List.take_length] at hT
   have cn : wr.cell? ⟨w.heap.size, 3, none⟩ = some (.slice A2 ps.length c2) := (Aa0 hT.bs 3).trans rfl
   clear hj hlt
   have TS := hT
   clear hT
   go_wp2_with fail
   go_loopw [43] (fun i W => ∃ (j : Nat) (v2 : Value), i = .int .i64 j ∧ j ≤ ps.length ∧ T (mkTX row St (.func (.func k) #[] cap) win w fin kind A1 c1 sup A2 c2 ps A3 c3 rs A4 c4 fs) v1 v2 (.slice none 0 0) (.slice none 0 0) (Aa4 (tval f) (Aa4 f s0 sup).1 (ps.take j)).1 (Aa4 f s0 sup).2 (Aa4 (tval f) (Aa4 f s0 sup).1 (ps.take j)).2 [] [] W) (fun i _ => ps.length - (intOf i).toNat)
   case atStart => exact ⟨0, _, rfl, Nat.zero_le _, TS⟩
   case round =>
    clear TS
    obtain ⟨j, v2, rfl, hj, hT⟩ := hrel
    by_cases hlt : j < ps.length
    ·obtain ⟨ad, x, rfl, hx, hd0, hd1, hd2⟩ := Bz5 HR2.out j hlt
     have hc0 : wr.cell? (ad.add (j * 3)) = some (.int .i64 x.f0) := (hT.bin.cell (World.block_lt_of_cell? win _ hd0)).trans hd0
     have hc1 : wr.cell? ⟨(ad.add (j * 3)).block, (ad.add (j * 3)).off + 1, none⟩ = some (.bool x.f1) := (hT.bin.cell (World.block_lt_of_cell? win _ hd1)).trans hd1
     have hc2 : wr.cell? ⟨(ad.add (j * 3)).block, (ad.add (j * 3)).off + 2, none⟩ = some (.int .i64 x.f2) := (hT.bin.cell (World.block_lt_of_cell? win _ hd2)).trans hd2
     clear hd0 hd1 hd2
     have HX := zA hx
     clear hx
     have T0 := (hT.alloc KT (.cells #[.int .i64 x.f0, .bool x.f1, .int .i64 x.f2] 39)).drew KT
     have B0 : (wr.alloc (.cells #[.int .i64 x.f0, .bool x.f1, .int .i64 x.f2] 39)).drew.heap[wr.heap.size]? = some (.cells #[.int .i64 x.f0, .bool x.f1, .int .i64 x.f2] 39 (0, 0)) := Aa6 wr _
     have HV : Aa2 (some wr.heap.size ≠ v2.ownBlock) := ⟨fun e => by obtain ⟨_, in_, ho_, _⟩ := hT.r2; have := Am3 ho_ _ e.symm; omega⟩
     go_wp2_with fail
     refine Ab3 (n := 11) (S := fun w' => w'.cell? ⟨w.heap.size + 1 + 1 + 1, 3, none⟩ = some v2 ∧ w'.cell? ⟨wr.heap.size, 0, none⟩ = some (.int .i64 x.f0) ∧ w'.cell? ⟨wr.heap.size, 1, none⟩ = some (.bool x.f1) ∧ w'.cell? ⟨wr.heap.size, 2, none⟩ = some (.int .i64 x.f2)) (ds := [10]) (bm_ 11 0) (by kernel_rfl) rfl rfl ⟨(Aa0 T0.bo 3).trans rfl, (Aa0 B0 0).trans rfl, (Aa0 B0 1).trans rfl, (Aa0 B0 2).trans rfl⟩ (fun hHeld => ?_)
     generalize World.drew _ = w5 at T0 B0 hHeld ⊢
     refine pz_ 0 47 11 1 ?_
     refine pz_ 1 48 11 3 ?_
     refine pz_ 3 50 11 11 ?_
     refine tz_ 2 49 11 15 hHeld ?_
     refine tz_ 4 51 11 31 hHeld ?_
     refine oz_ 5 52 11 63 fun K hK => ?_
     refine Ay9 (fun args_ w_ => Am6 Tryz.func136 (by kernel_rfl) rfl args_ w_) #[.agg #[.int .i64 x.f0, .bool x.f1, .int .i64 x.f2]] #[.agg #[.int .i64 x.f0, .bool x.f1, .int .i64 x.f2], .pointer (some ⟨w.heap.size + 1, 0, none⟩)] (by rfl) rfl rfl (by rfl) (by simp only [List.map_toArray, List.map_cons, List.map_nil]; rfl) rfl ?_
     refine (Ap2 C (Aa4 (tval f) (Aa4 f s0 sup).1 (ps.take j)).1 x.f0 x.f1 x.f2 (w.heap.size + 1) _ ((Aa0 T0.bt 0).trans rfl) (Nat.le_trans hbase T0.size) (HQ2.out x (List.mem_of_getElem? HX.out)) T0.st).mono ?_
     rintro e w6 ⟨rfl, hS, hgr⟩
     refine ⟨_, rfl, ?_⟩
     have T1 := T0.cb KT hgr hS
     have B1 := Ab5 B0 hgr (fun e => by have := KT.row_lt _ e.symm; have := hT.size; show False; omega)
     clear hS hgr
     refine hK.out _ _ ⟨(Aa0 T1.bo 3).trans rfl, (Aa0 B1 0).trans rfl, (Aa0 B1 1).trans rfl, (Aa0 B1 2).trans rfl⟩ (fun hHeld => ?_)
     clear hK K
     refine nz_ ?_
     refine oz_ 6 53 11 127 fun K hK => ?_
     refine vz_ ?_
     refine hK.out _ _ ⟨(Aa0 (T1.alloc KT _).bo 3).trans rfl, (Aa0 (Aa5 B1 _) 0).trans rfl, (Aa0 (Aa5 B1 _) 1).trans rfl, (Aa0 (Aa5 B1 _) 2).trans rfl⟩ (fun hHeld => ?_)
     clear hK K
     refine nz_ ?_
     refine oz_ 7 54 11 255 fun K hK => ?_
     refine Kd.Ab9 k39 (w0 := w6) w.heap.size (by rfl) (.tmp 49) (.tmp 53) 27 39 (.agg #[.int .i64 0, .bool false, .int .i64 0]) 24 rfl Tryz.underlying27 Am5 rfl (by decide) (by omega) v2 _ (tval f (Aa4 (tval f) (Aa4 f s0 sup).1 (ps.take j)).1 x).2 [.int .i64 (tval f (Aa4 (tval f) (Aa4 f s0 sup).1 (ps.take j)).1 x).2.f0, .bool (tval f (Aa4 (tval f) (Aa4 f s0 sup).1 (ps.take j)).1 x).2.f1, .int .i64 (tval f (Aa4 (tval f) (Aa4 f s0 sup).1 (ps.take j)).1 x).2.f2] (fun k => True ∧ some k ≠ (Value.slice none 0 0).ownBlock) (fun _ => False) rfl rfl (Ai2 _ _ _ _) (fun _ hk => hk.elim) (fun k_ hk_ => ⟨trivial, by simp [Value.ownBlock]⟩) T1.r2 (Below.refl _ _) T1.size (by rw [Ag3, List.length_take]; omega) ?_
     intro v5 w7 ho _ hg hat
     obtain ⟨l5, hl5⟩ : ∃ l_ : List S39, l_ = (Aa4 (tval f) (Aa4 f s0 sup).1 (ps.take j)).2 ++ [(tval f (Aa4 (tval f) (Aa4 f s0 sup).1 (ps.take j)).1 x).2] := ⟨_, rfl⟩
     rw [← hl5] at ho
     have HL5 := zA hl5
     clear hl5
     obtain ⟨bs, bt, bo, br⟩ := T1.blocks T1.r2 (by decide) (by decide) hg
     have T3 := T1.put2 KT ho hg hat
     have B3 := Ab5 B1 hg HV.out
     obtain ⟨A5, c5, e5⟩ := Kd.Aa9 ho
     subst e5
     refine hK.out _ _ ⟨(Aa0 bo 3).trans rfl, (Aa0 B3 0).trans rfl, (Aa0 B3 1).trans rfl, (Aa0 B3 2).trans rfl⟩ (fun hHeld => ?_)
     clear hK K
     refine nz_ ?_
     refine pz_ 8 55 11 511 ?_
     refine pz_ 9 56 11 1023 ?_
     refine Ag8 (i := 10) (N := none) (bm_ 11 2047) rfl rfl (by kernel_rfl) (by decide) (fun K hK => ?_)
     have hs_ : w7.cell? ⟨w.heap.size + 1 + 1 + 1, 3, none⟩ = some v2 := (Aa0 bo 3).trans rfl
     have hfs_ : w7.frozen? ⟨w.heap.size + 1 + 1 + 1, 3, none⟩ = false := Aa1 bo 3
     refine sz_ ?_
     refine hK.out _ _ ?_
     clear hK K
     refine dz_ ?_
     go_wp2_with fail
     go_roundw
     case rel => exact ⟨j + 1, _, by go_num, by omega, by have e := Ai5 (tval f) (Aa4 f s0 sup).1 ps j x HX.out; rw [e]; dsimp only; rw [← HL5.out]; exact T3⟩
     case measure => simp [intOf]; omega
    ·obtain rfl : j = ps.length := by omega
     rw [List.take_length] at hT
     have cn : wr.cell? ⟨w.heap.size, 4, none⟩ = some (.slice A3 rs.length c3) := (Aa0 hT.bs 4).trans rfl
     clear hj hlt
     have TS := hT
     clear hT
     go_wp2_with fail
     go_loopw [62] (fun i W => ∃ (j : Nat) (v3 : Value), i = .int .i64 j ∧ j ≤ rs.length ∧ T (mkTX row St (.func (.func k) #[] cap) win w fin kind A1 c1 sup A2 c2 ps A3 c3 rs A4 c4 fs) v1 v2 v3 (.slice none 0 0) (Aa4 (tval f) (Aa4 (tval f) (Aa4 f s0 sup).1 ps).1 (rs.take j)).1 (Aa4 f s0 sup).2 (Aa4 (tval f) (Aa4 f s0 sup).1 ps).2 (Aa4 (tval f) (Aa4 (tval f) (Aa4 f s0 sup).1 ps).1 (rs.take j)).2 [] W) (fun i _ => rs.length - (intOf i).toNat)
     case atStart => exact ⟨0, _, rfl, Nat.zero_le _, TS⟩
     case round =>
      clear TS
      obtain ⟨j, v3, rfl, hj, hT⟩ := hrel
      by_cases hlt : j < rs.length
      ·obtain ⟨ad, x, rfl, hx, hd0, hd1, hd2⟩ := Bz5 HR3.out j hlt
       have hc0 : wr.cell? (ad.add (j * 3)) = some (.int .i64 x.f0) := (hT.bin.cell (World.block_lt_of_cell? win _ hd0)).trans hd0
       have hc1 : wr.cell? ⟨(ad.add (j * 3)).block, (ad.add (j * 3)).off + 1, none⟩ = some (.bool x.f1) := (hT.bin.cell (World.block_lt_of_cell? win _ hd1)).trans hd1
       have hc2 : wr.cell? ⟨(ad.add (j * 3)).block, (ad.add (j * 3)).off + 2, none⟩ = some (.int .i64 x.f2) := (hT.bin.cell (World.block_lt_of_cell? win _ hd2)).trans hd2
       clear hd0 hd1 hd2
       have HX := zA hx
       clear hx
       have T0 := (hT.alloc KT (.cells #[.int .i64 x.f0, .bool x.f1, .int .i64 x.f2] 39)).drew KT
       have B0 : (wr.alloc (.cells #[.int .i64 x.f0, .bool x.f1, .int .i64 x.f2] 39)).drew.heap[wr.heap.size]? = some (.cells #[.int .i64 x.f0, .bool x.f1, .int .i64 x.f2] 39 (0, 0)) := Aa6 wr _
       have HV : Aa2 (some wr.heap.size ≠ v3.ownBlock) := ⟨fun e => by obtain ⟨_, in_, ho_, _⟩ := hT.r3; have := Am3 ho_ _ e.symm; omega⟩
       go_wp2_with fail
       refine Ab3 (n := 11) (S := fun w' => w'.cell? ⟨w.heap.size + 1 + 1 + 1, 4, none⟩ = some v3 ∧ w'.cell? ⟨wr.heap.size, 0, none⟩ = some (.int .i64 x.f0) ∧ w'.cell? ⟨wr.heap.size, 1, none⟩ = some (.bool x.f1) ∧ w'.cell? ⟨wr.heap.size, 2, none⟩ = some (.int .i64 x.f2)) (ds := [10]) (bm_ 11 0) (by kernel_rfl) rfl rfl ⟨(Aa0 T0.bo 4).trans rfl, (Aa0 B0 0).trans rfl, (Aa0 B0 1).trans rfl, (Aa0 B0 2).trans rfl⟩ (fun hHeld => ?_)
       generalize World.drew _ = w5 at T0 B0 hHeld ⊢
       refine pz_ 0 66 11 1 ?_
       refine pz_ 1 67 11 3 ?_
       refine pz_ 3 69 11 11 ?_
       refine tz_ 2 68 11 15 hHeld ?_
       refine tz_ 4 70 11 31 hHeld ?_
       refine oz_ 5 71 11 63 fun K hK => ?_
       refine Ay9 (fun args_ w_ => Am6 Tryz.func136 (by kernel_rfl) rfl args_ w_) #[.agg #[.int .i64 x.f0, .bool x.f1, .int .i64 x.f2]] #[.agg #[.int .i64 x.f0, .bool x.f1, .int .i64 x.f2], .pointer (some ⟨w.heap.size + 1, 0, none⟩)] (by rfl) rfl rfl (by rfl) (by simp only [List.map_toArray, List.map_cons, List.map_nil]; rfl) rfl ?_
       refine (Ap2 C (Aa4 (tval f) (Aa4 (tval f) (Aa4 f s0 sup).1 ps).1 (rs.take j)).1 x.f0 x.f1 x.f2 (w.heap.size + 1) _ ((Aa0 T0.bt 0).trans rfl) (Nat.le_trans hbase T0.size) (HQ3.out x (List.mem_of_getElem? HX.out)) T0.st).mono ?_
       rintro e w6 ⟨rfl, hS, hgr⟩
       refine ⟨_, rfl, ?_⟩
       have T1 := T0.cb KT hgr hS
       have B1 := Ab5 B0 hgr (fun e => by have := KT.row_lt _ e.symm; have := hT.size; show False; omega)
       clear hS hgr
       refine hK.out _ _ ⟨(Aa0 T1.bo 4).trans rfl, (Aa0 B1 0).trans rfl, (Aa0 B1 1).trans rfl, (Aa0 B1 2).trans rfl⟩ (fun hHeld => ?_)
       clear hK K
       refine nz_ ?_
       refine oz_ 6 72 11 127 fun K hK => ?_
       refine vz_ ?_
       refine hK.out _ _ ⟨(Aa0 (T1.alloc KT _).bo 4).trans rfl, (Aa0 (Aa5 B1 _) 0).trans rfl, (Aa0 (Aa5 B1 _) 1).trans rfl, (Aa0 (Aa5 B1 _) 2).trans rfl⟩ (fun hHeld => ?_)
       clear hK K
       refine nz_ ?_
       refine oz_ 7 73 11 255 fun K hK => ?_
       refine Kd.Ab9 k39 (w0 := w6) w.heap.size (by rfl) (.tmp 68) (.tmp 72) 27 39 (.agg #[.int .i64 0, .bool false, .int .i64 0]) 24 rfl Tryz.underlying27 Am5 rfl (by decide) (by omega) v3 _ (tval f (Aa4 (tval f) (Aa4 (tval f) (Aa4 f s0 sup).1 ps).1 (rs.take j)).1 x).2 [.int .i64 (tval f (Aa4 (tval f) (Aa4 (tval f) (Aa4 f s0 sup).1 ps).1 (rs.take j)).1 x).2.f0, .bool (tval f (Aa4 (tval f) (Aa4 (tval f) (Aa4 f s0 sup).1 ps).1 (rs.take j)).1 x).2.f1, .int .i64 (tval f (Aa4 (tval f) (Aa4 (tval f) (Aa4 f s0 sup).1 ps).1 (rs.take j)).1 x).2.f2] (fun k => True ∧ some k ≠ v2.ownBlock) (fun _ => False) rfl rfl (Ai2 _ _ _ _) (fun _ hk => hk.elim) (fun k_ hk_ => ⟨trivial, fun e => by obtain ⟨_, in_, ho_, _⟩ := T1.r2; have := Am3 ho_ k_ e.symm; omega⟩) T1.r3 (Below.refl _ _) T1.size (by rw [Ag3, List.length_take]; omega) ?_
       intro v5 w7 ho _ hg hat
       obtain ⟨l5, hl5⟩ : ∃ l_ : List S39, l_ = (Aa4 (tval f) (Aa4 (tval f) (Aa4 f s0 sup).1 ps).1 (rs.take j)).2 ++ [(tval f (Aa4 (tval f) (Aa4 (tval f) (Aa4 f s0 sup).1 ps).1 (rs.take j)).1 x).2] := ⟨_, rfl⟩
       rw [← hl5] at ho
       have HL5 := zA hl5
       clear hl5
       obtain ⟨bs, bt, bo, br⟩ := T1.blocks T1.r3 (by decide) (by decide) hg
       have T3 := T1.put3 KT ho hg hat
       have B3 := Ab5 B1 hg HV.out
       obtain ⟨A5, c5, e5⟩ := Kd.Aa9 ho
       subst e5
       refine hK.out _ _ ⟨(Aa0 bo 4).trans rfl, (Aa0 B3 0).trans rfl, (Aa0 B3 1).trans rfl, (Aa0 B3 2).trans rfl⟩ (fun hHeld => ?_)
       clear hK K
       refine nz_ ?_
       refine pz_ 8 74 11 511 ?_
       refine pz_ 9 75 11 1023 ?_
       refine Ag8 (i := 10) (N := none) (bm_ 11 2047) rfl rfl (by kernel_rfl) (by decide) (fun K hK => ?_)
       have hs_ : w7.cell? ⟨w.heap.size + 1 + 1 + 1, 4, none⟩ = some v3 := (Aa0 bo 4).trans rfl
       have hfs_ : w7.frozen? ⟨w.heap.size + 1 + 1 + 1, 4, none⟩ = false := Aa1 bo 4
       refine sz_ ?_
       refine hK.out _ _ ?_
       clear hK K
       refine dz_ ?_
       go_wp2_with fail
       go_roundw
       case rel => exact ⟨j + 1, _, by go_num, by omega, by have e := Ai5 (tval f) (Aa4 (tval f) (Aa4 f s0 sup).1 ps).1 rs j x HX.out; rw [e]; dsimp only; rw [← HL5.out]; exact T3⟩
       case measure => simp [intOf]; omega
      ·obtain rfl : j = rs.length := by omega
       rw [List.take_length] at hT
       have cn : wr.cell? ⟨w.heap.size, 5, none⟩ = some (.slice A4 fs.length c4) := (Aa0 hT.bs 5).trans rfl
       clear hj hlt
       have TS := hT
       clear hT
       go_wp2_with fail
       go_loopw [81] (fun i W => ∃ (j : Nat) (v4 : Value), i = .int .i64 j ∧ j ≤ fs.length ∧ T (mkTX row St (.func (.func k) #[] cap) win w fin kind A1 c1 sup A2 c2 ps A3 c3 rs A4 c4 fs) v1 v2 v3 v4 (Aa4 (Ah3 f) (Aa4 (tval f) (Aa4 (tval f) (Aa4 f s0 sup).1 ps).1 rs).1 (fs.take j)).1 (Aa4 f s0 sup).2 (Aa4 (tval f) (Aa4 f s0 sup).1 ps).2 (Aa4 (tval f) (Aa4 (tval f) (Aa4 f s0 sup).1 ps).1 rs).2 (Aa4 (Ah3 f) (Aa4 (tval f) (Aa4 (tval f) (Aa4 f s0 sup).1 ps).1 rs).1 (fs.take j)).2 W) (fun i _ => fs.length - (intOf i).toNat)
       case atStart => exact ⟨0, _, rfl, Nat.zero_le _, TS⟩
       case round =>
        clear TS
        obtain ⟨j, v4, rfl, hj, hT⟩ := hrel
        by_cases hlt : j < fs.length
        ·obtain ⟨ad, x, rfl, hx, hd0, hd1, hd2, hd3⟩ := at_FT' HR4.out j hlt
         have hc0 : wr.cell? (ad.add (j * 4)) = some (.int .i64 x.f0.f0) := (hT.bin.cell (World.block_lt_of_cell? win _ hd0)).trans hd0
         have hc1 : wr.cell? ⟨(ad.add (j * 4)).block, (ad.add (j * 4)).off + 1, none⟩ = some (.bool x.f0.f1) := (hT.bin.cell (World.block_lt_of_cell? win _ hd1)).trans hd1
         have hc2 : wr.cell? ⟨(ad.add (j * 4)).block, (ad.add (j * 4)).off + 2, none⟩ = some (.int .i64 x.f0.f2) := (hT.bin.cell (World.block_lt_of_cell? win _ hd2)).trans hd2
         have hc3 : wr.cell? ⟨(ad.add (j * 4)).block, (ad.add (j * 4)).off + 3, none⟩ = some (.bool x.f1) := (hT.bin.cell (World.block_lt_of_cell? win _ hd3)).trans hd3
         clear hd0 hd1 hd2 hd3
         have HX := zA hx
         clear hx
         have T0 := (hT.alloc KT (.cells #[.int .i64 x.f0.f0, .bool x.f0.f1, .int .i64 x.f0.f2, .bool x.f1] 172)).drew KT
         have B0 : (wr.alloc (.cells #[.int .i64 x.f0.f0, .bool x.f0.f1, .int .i64 x.f0.f2, .bool x.f1] 172)).drew.heap[wr.heap.size]? = some (.cells #[.int .i64 x.f0.f0, .bool x.f0.f1, .int .i64 x.f0.f2, .bool x.f1] 172 (0, 0)) := Aa6 wr _
         have HV : Aa2 (some wr.heap.size ≠ v4.ownBlock) := ⟨fun e => by obtain ⟨_, in_, ho_, _⟩ := hT.r4; have := Am3 ho_ _ e.symm; omega⟩
         go_wp2_with fail
         refine Ab3 (n := 15) (S := fun w' => w'.cell? ⟨w.heap.size + 1 + 1 + 1, 5, none⟩ = some v4 ∧ w'.cell? ⟨wr.heap.size, 0, none⟩ = some (.int .i64 x.f0.f0) ∧ w'.cell? ⟨wr.heap.size, 1, none⟩ = some (.bool x.f0.f1) ∧ w'.cell? ⟨wr.heap.size, 2, none⟩ = some (.int .i64 x.f0.f2) ∧ w'.cell? ⟨wr.heap.size, 3, none⟩ = some (.bool x.f1)) (ds := [14]) (bm_ 15 0) (by kernel_rfl) rfl rfl ⟨(Aa0 T0.bo 5).trans rfl, (Aa0 B0 0).trans rfl, (Aa0 B0 1).trans rfl, (Aa0 B0 2).trans rfl, (Aa0 B0 3).trans rfl⟩ (fun hHeld => ?_)
         generalize World.drew _ = w5 at T0 B0 hHeld ⊢
         refine pz_ 0 85 15 1 ?_
         refine pz_ 1 86 15 3 ?_
         refine pz_ 3 88 15 11 ?_
         refine pz_ 4 89 15 27 ?_
         refine pz_ 7 92 15 155 ?_
         refine tz_ 2 87 15 159 hHeld ?_
         refine tz_ 5 90 15 191 hHeld ?_
         refine tz_ 8 93 15 447 hHeld ?_
         refine oz_ 6 91 15 511 fun K hK => ?_
         refine Ay9 (fun args_ w_ => Am6 Tryz.func136 (by kernel_rfl) rfl args_ w_) #[.agg #[.int .i64 x.f0.f0, .bool x.f0.f1, .int .i64 x.f0.f2]] #[.agg #[.int .i64 x.f0.f0, .bool x.f0.f1, .int .i64 x.f0.f2], .pointer (some ⟨w.heap.size + 1, 0, none⟩)] (by rfl) rfl rfl (by rfl) (by simp only [List.map_toArray, List.map_cons, List.map_nil]; rfl) rfl ?_
         refine (Ap2 C (Aa4 (Ah3 f) (Aa4 (tval f) (Aa4 (tval f) (Aa4 f s0 sup).1 ps).1 rs).1 (fs.take j)).1 x.f0.f0 x.f0.f1 x.f0.f2 (w.heap.size + 1) _ ((Aa0 T0.bt 0).trans rfl) (Nat.le_trans hbase T0.size) (HQ4.out x (List.mem_of_getElem? HX.out)) T0.st).mono ?_
         rintro e w6 ⟨rfl, hS, hgr⟩
         refine ⟨_, rfl, ?_⟩
         have T1 := T0.cb KT hgr hS
         have B1 := Ab5 B0 hgr (fun e => by have := KT.row_lt _ e.symm; have := hT.size; show False; omega)
         clear hS hgr
         refine hK.out _ _ ⟨(Aa0 T1.bo 5).trans rfl, (Aa0 B1 0).trans rfl, (Aa0 B1 1).trans rfl, (Aa0 B1 2).trans rfl, (Aa0 B1 3).trans rfl⟩ (fun hHeld => ?_)
         clear hK K
         refine nz_ ?_
         refine pz_ 9 94 15 1023 ?_
         refine oz_ 10 95 15 2047 fun K hK => ?_
         refine vz_ ?_
         refine hK.out _ _ ⟨(Aa0 (T1.alloc KT _).bo 5).trans rfl, (Aa0 (Aa5 B1 _) 0).trans rfl, (Aa0 (Aa5 B1 _) 1).trans rfl, (Aa0 (Aa5 B1 _) 2).trans rfl, (Aa0 (Aa5 B1 _) 3).trans rfl⟩ (fun hHeld => ?_)
         clear hK K
         refine nz_ ?_
         refine oz_ 11 96 15 4095 fun K hK => ?_
         refine Kd.Ab9 k172 (w0 := w6) w.heap.size (by rfl) (.tmp 87) (.tmp 95) 119 172 (.agg #[.int .i64 0, .bool false, .int .i64 0, .bool false]) 32 rfl Tryz.underlying119 Bm1 rfl (by decide) (by omega) v4 _ (Ah3 f (Aa4 (Ah3 f) (Aa4 (tval f) (Aa4 (tval f) (Aa4 f s0 sup).1 ps).1 rs).1 (fs.take j)).1 x).2 [.int .i64 (tval f (Aa4 (Ah3 f) (Aa4 (tval f) (Aa4 (tval f) (Aa4 f s0 sup).1 ps).1 rs).1 (fs.take j)).1 x.f0).2.f0, .bool (tval f (Aa4 (Ah3 f) (Aa4 (tval f) (Aa4 (tval f) (Aa4 f s0 sup).1 ps).1 rs).1 (fs.take j)).1 x.f0).2.f1, .int .i64 (tval f (Aa4 (Ah3 f) (Aa4 (tval f) (Aa4 (tval f) (Aa4 f s0 sup).1 ps).1 rs).1 (fs.take j)).1 x.f0).2.f2, .bool x.f1] (fun _ => True) (fun _ => False) rfl rfl (Bl8 _ _ _ _) (fun _ hk => hk.elim) (fun _ _ => trivial) T1.r4 (Below.refl _ _) T1.size (by rw [Ag3, List.length_take]; omega) ?_
         intro v5 w7 ho _ hg hat
         obtain ⟨l5, hl5⟩ : ∃ l_ : List S172, l_ = (Aa4 (Ah3 f) (Aa4 (tval f) (Aa4 (tval f) (Aa4 f s0 sup).1 ps).1 rs).1 (fs.take j)).2 ++ [(Ah3 f (Aa4 (Ah3 f) (Aa4 (tval f) (Aa4 (tval f) (Aa4 f s0 sup).1 ps).1 rs).1 (fs.take j)).1 x).2] := ⟨_, rfl⟩
         rw [← hl5] at ho
         have HL5 := zA hl5
         clear hl5
         obtain ⟨bs, bt, bo, br⟩ := T1.blocks T1.r4 (by decide) (by decide) hg
         have T3 := T1.put4 KT ho hg
         have B3 := Ab5 B1 hg HV.out
         obtain ⟨A5, c5, e5⟩ := Kd.Aa9 ho
         subst e5
         refine hK.out _ _ ⟨(Aa0 bo 5).trans rfl, (Aa0 B3 0).trans rfl, (Aa0 B3 1).trans rfl, (Aa0 B3 2).trans rfl, (Aa0 B3 3).trans rfl⟩ (fun hHeld => ?_)
         clear hK K
         refine nz_ ?_
         refine pz_ 12 97 15 8191 ?_
         refine pz_ 13 98 15 16383 ?_
         refine Ag8 (i := 14) (N := none) (bm_ 15 32767) rfl rfl (by kernel_rfl) (by decide) (fun K hK => ?_)
         have hs_ : w7.cell? ⟨w.heap.size + 1 + 1 + 1, 5, none⟩ = some v4 := (Aa0 bo 5).trans rfl
         have hfs_ : w7.frozen? ⟨w.heap.size + 1 + 1 + 1, 5, none⟩ = false := Aa1 bo 5
         refine sz_ ?_
         refine hK.out _ _ ?_
         clear hK K
         refine dz_ ?_
         go_wp2_with fail
         go_roundw
         case rel => exact ⟨j + 1, _, by go_num, by omega, by have e := Ai5 (Ah3 f) (Aa4 (tval f) (Aa4 (tval f) (Aa4 f s0 sup).1 ps).1 rs).1 fs j x HX.out; rw [e]; dsimp only; rw [← HL5.out]; exact T3⟩
         case measure => simp [intOf]; omega
        ·obtain rfl : j = fs.length := by omega
         rw [List.take_length] at hT
         have co0 : wr.cell? ⟨w.heap.size + 1 + 1 + 1, 0, none⟩ = some (.bool fin) := (Aa0 hT.bo 0).trans rfl
         have co1 : wr.cell? ⟨w.heap.size + 1 + 1 + 1, 1, none⟩ = some (v1) := (Aa0 hT.bo 1).trans rfl
         have co2 : wr.cell? ⟨w.heap.size + 1 + 1 + 1, 2, none⟩ = some (.int .i64 kind) := (Aa0 hT.bo 2).trans rfl
         have co3 : wr.cell? ⟨w.heap.size + 1 + 1 + 1, 3, none⟩ = some (v2) := (Aa0 hT.bo 3).trans rfl
         have co4 : wr.cell? ⟨w.heap.size + 1 + 1 + 1, 4, none⟩ = some (v3) := (Aa0 hT.bo 4).trans rfl
         have co5 : wr.cell? ⟨w.heap.size + 1 + 1 + 1, 5, none⟩ = some (v4) := (Aa0 hT.bo 5).trans rfl
         have cr0 : wr.cell? ⟨w.heap.size + 1 + 1, 0, none⟩ = some (.bool false) := (Aa0 hT.br 0).trans rfl
         have fr0 : wr.frozen? ⟨w.heap.size + 1 + 1, 0, none⟩ = false := Aa1 hT.br 0
         have cr1 : wr.cell? ⟨w.heap.size + 1 + 1, 1, none⟩ = some (.slice none 0 0) := (Aa0 hT.br 1).trans rfl
         have fr1 : wr.frozen? ⟨w.heap.size + 1 + 1, 1, none⟩ = false := Aa1 hT.br 1
         have cr2 : wr.cell? ⟨w.heap.size + 1 + 1, 2, none⟩ = some (.int .i64 0) := (Aa0 hT.br 2).trans rfl
         have fr2 : wr.frozen? ⟨w.heap.size + 1 + 1, 2, none⟩ = false := Aa1 hT.br 2
         have cr3 : wr.cell? ⟨w.heap.size + 1 + 1, 3, none⟩ = some (.slice none 0 0) := (Aa0 hT.br 3).trans rfl
         have fr3 : wr.frozen? ⟨w.heap.size + 1 + 1, 3, none⟩ = false := Aa1 hT.br 3
         have cr4 : wr.cell? ⟨w.heap.size + 1 + 1, 4, none⟩ = some (.slice none 0 0) := (Aa0 hT.br 4).trans rfl
         have fr4 : wr.frozen? ⟨w.heap.size + 1 + 1, 4, none⟩ = false := Aa1 hT.br 4
         have cr5 : wr.cell? ⟨w.heap.size + 1 + 1, 5, none⟩ = some (.slice none 0 0) := (Aa0 hT.br 5).trans rfl
         have fr5 : wr.frozen? ⟨w.heap.size + 1 + 1, 5, none⟩ = false := Aa1 hT.br 5
         obtain ⟨B1, d1, e1⟩ := Kd.Aa9 hT.r1
         subst e1
         obtain ⟨B2, d2, e2⟩ := Kd.Aa9 hT.r2
         subst e2
         obtain ⟨B3, d3, e3⟩ := Kd.Aa9 hT.r3
         subst e3
         obtain ⟨B4, d4, e4⟩ := Kd.Aa9 hT.r4
         subst e4
         clear hj hlt
         have TS := hT
         clear hT
         go_wp2_with fail
         refine bodyPost_ret (results_cell_row rfl _ _ (w.heap.size + 1 + 1) 123 #[.bool fin, (.slice B1 (Aa4 f s0 sup).2.length d1), .int .i64 kind, (.slice B2 (Aa4 (tval f) (Aa4 f s0 sup).1 ps).2.length d2), (.slice B3 (Aa4 (tval f) (Aa4 (tval f) (Aa4 f s0 sup).1 ps).1 rs).2.length d3), (.slice B4 (Aa4 (Ah3 f) (Aa4 (tval f) (Aa4 (tval f) (Aa4 f s0 sup).1 ps).1 rs).1 fs).2.length d4)] (0, 0) _ rfl (Aa7 (Aa7 (Aa7 (Aa7 (Aa7 (Aa7 TS.br 0 _) 1 _) 2 _) 3 _) 4 _) 5 _) Tryz.underlying123 rfl (by kernel_rfl)) rfl ?_
         obtain ⟨e1, e2, e3, e4, e5, e6⟩ := T.ends TS KT (.bool fin) (.slice B1 (Aa4 f s0 sup).2.length d1) (.int .i64 kind) (.slice B2 (Aa4 (tval f) (Aa4 f s0 sup).1 ps).2.length d2) (.slice B3 (Aa4 (tval f) (Aa4 (tval f) (Aa4 f s0 sup).1 ps).1 rs).2.length d3) (.slice B4 (Aa4 (Ah3 f) (Aa4 (tval f) (Aa4 (tval f) (Aa4 f s0 sup).1 ps).1 rs).1 fs).2.length d4)
         exact ⟨_, _, _, _, rfl, e1, e2, e3, e4, e5, e6.to_grown⟩
end Go.Proofs.YtohlmkcgempdlaaGreatDoor.Cn
namespace Go.Proofs.YtohlmkcgempdlaaGreatDoor.Cn
open Go.RowKit Go.Proofs.YtohlmkcgempdlaaGreatDoorW.PrintWords Go.Proofs.YtohlmkcgempdlaaGreatDoor.QD
def mval {σ : Type} (f : σ → Int → σ × Int) (s : σ) (v : S39) : σ × S39 := if v.f0 = 5 then ((f s v.f2).1, ⟨v.f0, v.f1, (f s v.f2).2⟩) else (s, ⟨v.f0, false, 0⟩)
set_option maxRecDepth 100000 in
theorem Ap6 {base : Nat} {row : Option Nat} {σ : Type} {Q : Int → Prop} {St : σ → World → Prop} {f : σ → Int → σ × Int} {fv : Value} (C : Cb base row Q St f fv) (s : σ) (n : Int) (b : Bool) (h : Int) (g : Nat) (w : World)
  (hg : w.cell? ⟨g, 0, none⟩ = some fv) (hb : base ≤ w.heap.size) (hq : n = 5 → Q h) (hs : St s w) :
  Calls Tryz.prog 185 #[.agg #[.int .i64 n, .bool b, .int .i64 h], .pointer (some ⟨g, 0, none⟩)] w fun e w' =>
   e = .returned (.agg #[.int .i64 (mval f s ⟨n, b, h⟩).2.f0, .bool (mval f s ⟨n, b, h⟩).2.f1, .int .i64 (mval f s ⟨n, b, h⟩).2.f2]) ∧ St (mval f s ⟨n, b, h⟩).1 w' ∧ w.grownBy w' row := by
 obtain ⟨k, cap, rfl, hcf, hcall⟩ := C.call
 have hlt : g < w.heap.size := World.block_lt_of_cell? w _ hg
 have hlt1 : g < w.heap.size + 1 := by omega
 have HQ := zA hq
 have HS := zA hs
 have HB := zA hb
 have HCALL := zA hcall
 clear hq hs hcall hb
 by_cases h5 : n = 5
 ·subst h5
  go_enter Tryz.func185, Tryz.ntmps185
  go_wp2_with fail
  refine (HCALL.out s h _ (by have := HB.out; simp; omega) (HQ.out trivial) (C.below HB.out HS.out (((Below.refl _ _).alloc HB.out _).alloc (by have := HB.out; simp; omega) _) (by simp; omega))).mono ?_
  rintro e w1 ⟨rfl, hS, hgr⟩
  have hne : ∀ i, w.heap.size ≤ i → some i ≠ row := fun i hi e => by have := C.row_lt i e.symm; have := HB.out; omega
  have b0 : w1.heap[w.heap.size]? = some (.cells #[.int .i64 5, .bool b, .int .i64 h] 39 (0, 0)) := (hgr.block _ (by simp; omega) (hne _ (Nat.le_refl _))).trans ((Below.heap_alloc _ _ _ (by simp)).trans (heap_alloc_new w _))
  have b1 : w1.heap[w.heap.size + 1]? = some (.cells #[.int .i64 0, .bool false, .int .i64 0] 39 (0, 0)) := (hgr.block _ (by simp) (hne _ (by omega))).trans (by have := heap_alloc_new (w.alloc (.cells #[.int .i64 5, .bool b, .int .i64 h] 39)) (.cells #[.int .i64 0, .bool false, .int .i64 0] 39); simpa using this)
  have c0 := (Aa0 b0 0).trans rfl
  have c1 := (Aa0 b0 1).trans rfl
  have c2 := (Aa0 b0 2).trans rfl
  have d0 := (Aa0 b1 0).trans rfl
  have d1 := (Aa0 b1 1).trans rfl
  have d2 := (Aa0 b1 2).trans rfl
  have f0 := Aa1 b0 0
  have f1 := Aa1 b0 1
  have f2 := Aa1 b0 2
  have g0 := Aa1 b1 0
  have g1 := Aa1 b1 1
  have g2 := Aa1 b1 2
  have HB0 := zA b0
  have HB1 := zA b1
  have HGR := zA hgr
  have HSS := zA hS
  clear b0 b1 hgr hS hne
  go_wp2
  have hB := HB.out
  refine bodyPost_ret (results_cell_row rfl _ _ (w.heap.size + 1) 39 #[.int .i64 5, .bool b, .int .i64 (f s h).2] (0, 0) _ rfl (Aa7 (Aa7 (Aa7 (Ag6 HB1.out (by simp) _) 0 _) 1 _) 2 _) Tryz.underlying39 rfl (by kernel_rfl)) rfl ?_
  have e : mval f s ⟨5, b, h⟩ = ((f s h).1, ⟨5, b, (f s h).2⟩) := rfl
  rw [e]
  refine ⟨rfl, ?_, ?_⟩
  ·refine C.below (w := w1) (by have := HGR.out.size; simp at this; omega) HSS.out ?_ (by simp)
   exact (((((Below.refl _ _).setCell hB _).setCell (by show base ≤ w.heap.size + 1; omega) _).setCell (by show base ≤ w.heap.size + 1; omega) _).setCell (by show base ≤ w.heap.size + 1; omega) _)
  ·exact (((((((But.refl row (Nat.le_refl _)).alloc _).alloc _).grown HGR.out (fun g e => .inr e.symm)).set (Nat.le_refl _) _ _).set (Nat.le_succ _) _ _).set (Nat.le_succ _) _ _ |>.set (Nat.le_succ _) _ _).to_grown
 ·have e : mval f s ⟨n, b, h⟩ = (s, ⟨n, false, 0⟩) := by simp [mval, h5]
  rw [e]
  go_enter Tryz.func185, Tryz.ntmps185
  go_wp2_with fail
  have hB := HB.out
  refine bodyPost_ret (v := .agg #[.int .i64 n, .bool false, .int .i64 0]) (by simp [results, Tryz.results185, go_sem]) rfl ?_
  refine ⟨rfl, ?_, ?_⟩
  ·exact C.below (w := w) HB.out HS.out (((Below.refl _ _).alloc hB _).alloc (by simp; omega) _) (by simp; omega)
  ·exact ((((But.refl row (Nat.le_refl _)).alloc _).alloc _)).to_grown
end Go.Proofs.YtohlmkcgempdlaaGreatDoor.Cn
namespace Go.Proofs.YtohlmkcgempdlaaGreatDoor.Cn
set_option linter.unusedSimpArgs false
set_option maxRecDepth 100000
set_option linter.unusedVariables false
open Go.RowKit Go.Proofs.YtohlmkcgempdlaaGreatDoorW.PrintWords Go.Proofs.YtohlmkcgempdlaaGreatDoorW.PrintLast Go.Proofs.YtohlmkcgempdlaaGreatDoorW.PrintMore Go.Proofs.YtohlmkcgempdlaaGreatDoor.QD
def Ai3 {σ : Type} (f : σ → Int → σ × Int) (s : σ) (x : S172) : σ × S172 := ((mval f s x.f0).1, ⟨(mval f s x.f0).2, x.f1⟩)
set_option maxHeartbeats 8000000 in
theorem Bp7 {base : Nat} {row : Option Nat} {σ : Type} {Q : Int → Prop} {St : σ → World → Prop} {f : σ → Int → σ × Int} {fv : Value} (C : Cb base row Q St f fv) (win : World) (s0 : σ) (fin : Bool) (kind : Int)
  (A1 : Option Addr) (c1 : Nat) (sup : List Int) (A2 : Option Addr) (c2 : Nat) (ps : List S39) (A3 : Option Addr) (c3 : Nat) (rs : List S39) (A4 : Option Addr) (c4 : Nat) (fs : List S172) (w : World) (hbase : base ≤ w.heap.size)
  (hwin : Below win.heap.size win w) (hrow : ∀ k, row = some k → win.heap.size ≤ k) (hs : St s0 w)
  (hr1 : Kd.C (Kd.int .i64) win A1 sup.length sup) (hr2 : Kd.C k39 win A2 ps.length ps) (hr3 : Kd.C k39 win A3 rs.length rs) (hr4 : Kd.C k172 win A4 fs.length fs)
  (hq1 : ∀ h ∈ sup, Q h) (hq2 : ∀ v ∈ ps, v.f0 = 5 → Q v.f2) (hq3 : ∀ v ∈ rs, v.f0 = 5 → Q v.f2) (hq4 : ∀ v ∈ fs, v.f0.f0 = 5 → Q v.f0.f2)
  (hl1 : sup.length * 8 ≤ 140737488351232) (hl2 : ps.length * 24 ≤ 140737488351232) (hl3 : rs.length * 24 ≤ 140737488351232) (hl4 : fs.length * 32 ≤ 140737488351232) :
  Calls Tryz.prog 176 #[.agg #[.bool fin, .slice A1 sup.length c1, .int .i64 kind, .slice A2 ps.length c2, .slice A3 rs.length c3, .slice A4 fs.length c4], fv] w fun e w' => ∃ v1 v2 v3 v4 : Value, e = .returned (.agg #[.bool fin, v1, .int .i64 kind, v2, v3, v4]) ∧
   Kd.R (Kd.int .i64) 3 w' w.heap.size (fun _ => True) v1 (Aa4 f s0 sup).2 ∧ Kd.R k39 39 w' w.heap.size (fun _ => True) v2 (Aa4 (mval f) (Aa4 f s0 sup).1 ps).2 ∧ Kd.R k39 39 w' w.heap.size (fun _ => True) v3 (Aa4 (mval f) (Aa4 (mval f) (Aa4 f s0 sup).1 ps).1 rs).2 ∧ Kd.R k172 172 w' w.heap.size (fun _ => True) v4 (Aa4 (Ai3 f) (Aa4 (mval f) (Aa4 (mval f) (Aa4 f s0 sup).1 ps).1 rs).1 fs).2 ∧
   St (Aa4 (Ai3 f) (Aa4 (mval f) (Aa4 (mval f) (Aa4 f s0 sup).1 ps).1 rs).1 fs).1 w' ∧ w.grownBy w' row := by
 have KT := mkTOk C hbase hwin hrow fin kind A1 c1 sup A2 c2 ps A3 c3 rs A4 c4 fs
 obtain ⟨k, cap, rfl, hcf, hcall⟩ := C.call
 have TS := T.start KT hwin hs
 have HQ1 := zA hq1
 have HQ2 := zA hq2
 have HQ3 := zA hq3
 have HQ4 := zA hq4
 have HCALL := zA hcall
 have HR1 := zA hr1
 have HR2 := zA hr2
 have HR3 := zA hr3
 have HR4 := zA hr4
 clear hq1 hq2 hq3 hq4 hcall hr1 hr2 hr3 hr4 hrow hs
 go_enter Tryz.func176, Tryz.ntmps176
 go_wp2_with fail
 go_loopw [26] (fun i W => ∃ (j : Nat) (v1 : Value), i = .int .i64 j ∧ j ≤ sup.length ∧ T (mkTX row St (.func (.func k) #[] cap) win w fin kind A1 c1 sup A2 c2 ps A3 c3 rs A4 c4 fs) v1 (.slice none 0 0) (.slice none 0 0) (.slice none 0 0) (Aa4 f s0 (sup.take j)).1 (Aa4 f s0 (sup.take j)).2 [] [] [] W) (fun i _ => sup.length - (intOf i).toNat)
 case atStart => exact ⟨0, _, rfl, Nat.zero_le _, TS⟩
 case round =>
  clear TS
  obtain ⟨j, v1, rfl, hj, hT⟩ := hrel
  by_cases hlt : j < sup.length
  ·obtain ⟨ad, x, rfl, hx, hcx0⟩ := Au7 HR1.out j hlt
   have hcx : wr.cell? (ad.add j) = some (.int .i64 x) := (hT.bin.cell (World.block_lt_of_cell? win _ hcx0)).trans hcx0
   have HX := zA hx
   clear hx hcx0
   have T0 := hT.drew KT
   go_wp2_with fail
   refine Ab3 (n := 9) (S := fun w' => w'.cell? ⟨w.heap.size + 1 + 1 + 1, 1, none⟩ = some v1 ∧ w'.cell? ⟨w.heap.size + 1, 0, none⟩ = some (.func (.func k) #[] cap)) (ds := [8]) (bm_ 9 0) (by kernel_rfl) rfl rfl ⟨(Aa0 T0.bo 1).trans rfl, (Aa0 T0.bt 0).trans rfl⟩ (fun hHeld => ?_)
   generalize wr.drew = w5 at T0 hHeld ⊢
   refine pz_ 0 30 9 1 ?_
   refine pz_ 3 33 9 9 ?_
   refine tz_ 1 31 9 11 hHeld ?_
   refine tz_ 2 32 9 15 hHeld ?_
   refine oz_ 4 34 9 31 fun K hK => ?_
   refine Ay9 hcf #[.int .i64 x] (#[.int .i64 x] ++ cap) (by rfl) rfl rfl (by rfl) (by simp only [List.map_toArray, List.map_cons, List.map_nil]; rfl) rfl ?_
   refine (HCALL.out _ x _ (Nat.le_trans hbase T0.size) (HQ1.out x (List.mem_of_getElem? HX.out)) T0.st).mono ?_
   rintro e w6 ⟨rfl, hS, hgr⟩
   refine ⟨_, rfl, ?_⟩
   have T1 := T0.cb KT hgr hS
   clear hS hgr
   refine hK.out _ _ ⟨(Aa0 T1.bo 1).trans rfl, (Aa0 T1.bt 0).trans rfl⟩ (fun hHeld => ?_)
   clear hK K
   refine nz_ ?_
   refine oz_ 5 35 9 63 fun K hK => ?_
   refine vz_ ?_
   refine hK.out _ _ ⟨(Aa0 (T1.alloc KT _).bo 1).trans rfl, (Aa0 (T1.alloc KT _).bt 0).trans rfl⟩ (fun hHeld => ?_)
   clear hK K
   refine nz_ ?_
   refine oz_ 6 36 9 127 fun K hK => ?_
   refine Kd.Ab9 (Kd.int .i64) (w0 := w6) w.heap.size (by rfl) (.tmp 31) (.tmp 35) 23 3 (.int .i64 0) 8 rfl Tryz.underlying23 Ax8 rfl (by decide) (by omega) v1 _ (f (Aa4 f s0 (sup.take j)).1 x).2 [.int .i64 (f (Aa4 f s0 (sup.take j)).1 x).2] (fun _ => True) (fun _ => False) rfl rfl rfl (fun _ hk => hk.elim) (fun _ _ => trivial) T1.r1 (Below.refl _ _) T1.size (by rw [Ag3, List.length_take]; omega) ?_
   intro v5 w7 ho _ hg hat
   obtain ⟨l5, hl5⟩ : ∃ l_ : List Int, l_ = (Aa4 f s0 (sup.take j)).2 ++ [(f (Aa4 f s0 (sup.take j)).1 x).2] := ⟨_, rfl⟩
   rw [← hl5] at ho
   have HL5 := zA hl5
   clear hl5
   obtain ⟨bs, bt, bo, br⟩ := T1.blocks T1.r1 (by decide) (by decide) hg
   have T3 := T1.put1 KT ho hg
   obtain ⟨A5, c5, e5⟩ := Kd.Aa9 ho
   subst e5
   refine hK.out _ _ ⟨(Aa0 bo 1).trans rfl, (Aa0 bt 0).trans rfl⟩ (fun hHeld => ?_)
   clear hK K
   refine nz_ ?_
   refine pz_ 7 37 9 255 ?_
   refine Ag8 (i := 8) (N := none) (bm_ 9 511) rfl rfl (by kernel_rfl) (by decide) (fun K hK => ?_)
   have hs_ : w7.cell? ⟨w.heap.size + 1 + 1 + 1, 1, none⟩ = some v1 := (Aa0 bo 1).trans rfl
   have hfs_ : w7.frozen? ⟨w.heap.size + 1 + 1 + 1, 1, none⟩ = false := Aa1 bo 1
   refine sz_ ?_
   refine hK.out _ _ ?_
   clear hK K
   refine dz_ ?_
   go_wp2_with fail
   go_roundw
   case rel => exact ⟨j + 1, _, by go_num, by omega, by have e := Ai5 f s0 sup j x HX.out; rw [e]; dsimp only; rw [← HL5.out]; exact T3⟩
   case measure => simp [intOf]; omega
  ·obtain rfl : j = sup.length := by omega
   rw [List.take_length] at hT
   have cn : wr.cell? ⟨w.heap.size, 3, none⟩ = some (.slice A2 ps.length c2) := (Aa0 hT.bs 3).trans rfl
   clear hj hlt
   have TS := hT
   clear hT
   go_wp2_with fail
   go_loopw [43] (fun i W => ∃ (j : Nat) (v2 : Value), i = .int .i64 j ∧ j ≤ ps.length ∧ T (mkTX row St (.func (.func k) #[] cap) win w fin kind A1 c1 sup A2 c2 ps A3 c3 rs A4 c4 fs) v1 v2 (.slice none 0 0) (.slice none 0 0) (Aa4 (mval f) (Aa4 f s0 sup).1 (ps.take j)).1 (Aa4 f s0 sup).2 (Aa4 (mval f) (Aa4 f s0 sup).1 (ps.take j)).2 [] [] W) (fun i _ => ps.length - (intOf i).toNat)
   case atStart => exact ⟨0, _, rfl, Nat.zero_le _, TS⟩
   case round =>
    clear TS
    obtain ⟨j, v2, rfl, hj, hT⟩ := hrel
    by_cases hlt : j < ps.length
    ·obtain ⟨ad, x, rfl, hx, hd0, hd1, hd2⟩ := Bz5 HR2.out j hlt
     have hc0 : wr.cell? (ad.add (j * 3)) = some (.int .i64 x.f0) := (hT.bin.cell (World.block_lt_of_cell? win _ hd0)).trans hd0
     have hc1 : wr.cell? ⟨(ad.add (j * 3)).block, (ad.add (j * 3)).off + 1, none⟩ = some (.bool x.f1) := (hT.bin.cell (World.block_lt_of_cell? win _ hd1)).trans hd1
     have hc2 : wr.cell? ⟨(ad.add (j * 3)).block, (ad.add (j * 3)).off + 2, none⟩ = some (.int .i64 x.f2) := (hT.bin.cell (World.block_lt_of_cell? win _ hd2)).trans hd2
     clear hd0 hd1 hd2
     have HX := zA hx
     clear hx
     have T0 := (hT.alloc KT (.cells #[.int .i64 x.f0, .bool x.f1, .int .i64 x.f2] 39)).drew KT
     have B0 : (wr.alloc (.cells #[.int .i64 x.f0, .bool x.f1, .int .i64 x.f2] 39)).drew.heap[wr.heap.size]? = some (.cells #[.int .i64 x.f0, .bool x.f1, .int .i64 x.f2] 39 (0, 0)) := Aa6 wr _
     have HV : Aa2 (some wr.heap.size ≠ v2.ownBlock) := ⟨fun e => by obtain ⟨_, in_, ho_, _⟩ := hT.r2; have := Am3 ho_ _ e.symm; omega⟩
     go_wp2_with fail
     refine Ab3 (n := 11) (S := fun w' => w'.cell? ⟨w.heap.size + 1 + 1 + 1, 3, none⟩ = some v2 ∧ w'.cell? ⟨wr.heap.size, 0, none⟩ = some (.int .i64 x.f0) ∧ w'.cell? ⟨wr.heap.size, 1, none⟩ = some (.bool x.f1) ∧ w'.cell? ⟨wr.heap.size, 2, none⟩ = some (.int .i64 x.f2)) (ds := [10]) (bm_ 11 0) (by kernel_rfl) rfl rfl ⟨(Aa0 T0.bo 3).trans rfl, (Aa0 B0 0).trans rfl, (Aa0 B0 1).trans rfl, (Aa0 B0 2).trans rfl⟩ (fun hHeld => ?_)
     generalize World.drew _ = w5 at T0 B0 hHeld ⊢
     refine pz_ 0 47 11 1 ?_
     refine pz_ 1 48 11 3 ?_
     refine pz_ 3 50 11 11 ?_
     refine tz_ 2 49 11 15 hHeld ?_
     refine tz_ 4 51 11 31 hHeld ?_
     refine oz_ 5 52 11 63 fun K hK => ?_
     refine Ay9 (fun args_ w_ => Am6 Tryz.func185 (by kernel_rfl) rfl args_ w_) #[.agg #[.int .i64 x.f0, .bool x.f1, .int .i64 x.f2]] #[.agg #[.int .i64 x.f0, .bool x.f1, .int .i64 x.f2], .pointer (some ⟨w.heap.size + 1, 0, none⟩)] (by rfl) rfl rfl (by rfl) (by simp only [List.map_toArray, List.map_cons, List.map_nil]; rfl) rfl ?_
     refine (Ap6 C (Aa4 (mval f) (Aa4 f s0 sup).1 (ps.take j)).1 x.f0 x.f1 x.f2 (w.heap.size + 1) _ ((Aa0 T0.bt 0).trans rfl) (Nat.le_trans hbase T0.size) (HQ2.out x (List.mem_of_getElem? HX.out)) T0.st).mono ?_
     rintro e w6 ⟨rfl, hS, hgr⟩
     refine ⟨_, rfl, ?_⟩
     have T1 := T0.cb KT hgr hS
     have B1 := Ab5 B0 hgr (fun e => by have := KT.row_lt _ e.symm; have := hT.size; show False; omega)
     clear hS hgr
     refine hK.out _ _ ⟨(Aa0 T1.bo 3).trans rfl, (Aa0 B1 0).trans rfl, (Aa0 B1 1).trans rfl, (Aa0 B1 2).trans rfl⟩ (fun hHeld => ?_)
     clear hK K
     refine nz_ ?_
     refine oz_ 6 53 11 127 fun K hK => ?_
     refine vz_ ?_
     refine hK.out _ _ ⟨(Aa0 (T1.alloc KT _).bo 3).trans rfl, (Aa0 (Aa5 B1 _) 0).trans rfl, (Aa0 (Aa5 B1 _) 1).trans rfl, (Aa0 (Aa5 B1 _) 2).trans rfl⟩ (fun hHeld => ?_)
     clear hK K
     refine nz_ ?_
     refine oz_ 7 54 11 255 fun K hK => ?_
     refine Kd.Ab9 k39 (w0 := w6) w.heap.size (by rfl) (.tmp 49) (.tmp 53) 27 39 (.agg #[.int .i64 0, .bool false, .int .i64 0]) 24 rfl Tryz.underlying27 Am5 rfl (by decide) (by omega) v2 _ (mval f (Aa4 (mval f) (Aa4 f s0 sup).1 (ps.take j)).1 x).2 [.int .i64 (mval f (Aa4 (mval f) (Aa4 f s0 sup).1 (ps.take j)).1 x).2.f0, .bool (mval f (Aa4 (mval f) (Aa4 f s0 sup).1 (ps.take j)).1 x).2.f1, .int .i64 (mval f (Aa4 (mval f) (Aa4 f s0 sup).1 (ps.take j)).1 x).2.f2] (fun k => True ∧ some k ≠ (Value.slice none 0 0).ownBlock) (fun _ => False) rfl rfl (Ai2 _ _ _ _) (fun _ hk => hk.elim) (fun k_ hk_ => ⟨trivial, by simp [Value.ownBlock]⟩) T1.r2 (Below.refl _ _) T1.size (by rw [Ag3, List.length_take]; omega) ?_
     intro v5 w7 ho _ hg hat
     obtain ⟨l5, hl5⟩ : ∃ l_ : List S39, l_ = (Aa4 (mval f) (Aa4 f s0 sup).1 (ps.take j)).2 ++ [(mval f (Aa4 (mval f) (Aa4 f s0 sup).1 (ps.take j)).1 x).2] := ⟨_, rfl⟩
     rw [← hl5] at ho
     have HL5 := zA hl5
     clear hl5
     obtain ⟨bs, bt, bo, br⟩ := T1.blocks T1.r2 (by decide) (by decide) hg
     have T3 := T1.put2 KT ho hg hat
     have B3 := Ab5 B1 hg HV.out
     obtain ⟨A5, c5, e5⟩ := Kd.Aa9 ho
     subst e5
     refine hK.out _ _ ⟨(Aa0 bo 3).trans rfl, (Aa0 B3 0).trans rfl, (Aa0 B3 1).trans rfl, (Aa0 B3 2).trans rfl⟩ (fun hHeld => ?_)
     clear hK K
     refine nz_ ?_
     refine pz_ 8 55 11 511 ?_
     refine pz_ 9 56 11 1023 ?_
     refine Ag8 (i := 10) (N := none) (bm_ 11 2047) rfl rfl (by kernel_rfl) (by decide) (fun K hK => ?_)
     have hs_ : w7.cell? ⟨w.heap.size + 1 + 1 + 1, 3, none⟩ = some v2 := (Aa0 bo 3).trans rfl
     have hfs_ : w7.frozen? ⟨w.heap.size + 1 + 1 + 1, 3, none⟩ = false := Aa1 bo 3
     refine sz_ ?_
     refine hK.out _ _ ?_
     clear hK K
     refine dz_ ?_
     go_wp2_with fail
     go_roundw
     case rel => exact ⟨j + 1, _, by go_num, by omega, by have e := Ai5 (mval f) (Aa4 f s0 sup).1 ps j x HX.out; rw [e]; dsimp only; rw [← HL5.out]; exact T3⟩
     case measure => simp [intOf]; omega
    ·obtain rfl : j = ps.length := by omega
     rw [List.take_length] at hT
     have cn : wr.cell? ⟨w.heap.size, 4, none⟩ = some (.slice A3 rs.length c3) := (Aa0 hT.bs 4).trans rfl
     clear hj hlt
     have TS := hT
     clear hT
     go_wp2_with fail
     go_loopw [62] (fun i W => ∃ (j : Nat) (v3 : Value), i = .int .i64 j ∧ j ≤ rs.length ∧ T (mkTX row St (.func (.func k) #[] cap) win w fin kind A1 c1 sup A2 c2 ps A3 c3 rs A4 c4 fs) v1 v2 v3 (.slice none 0 0) (Aa4 (mval f) (Aa4 (mval f) (Aa4 f s0 sup).1 ps).1 (rs.take j)).1 (Aa4 f s0 sup).2 (Aa4 (mval f) (Aa4 f s0 sup).1 ps).2 (Aa4 (mval f) (Aa4 (mval f) (Aa4 f s0 sup).1 ps).1 (rs.take j)).2 [] W) (fun i _ => rs.length - (intOf i).toNat)
     case atStart => exact ⟨0, _, rfl, Nat.zero_le _, TS⟩
     case round =>
      clear TS
      obtain ⟨j, v3, rfl, hj, hT⟩ := hrel
      by_cases hlt : j < rs.length
      ·obtain ⟨ad, x, rfl, hx, hd0, hd1, hd2⟩ := Bz5 HR3.out j hlt
       have hc0 : wr.cell? (ad.add (j * 3)) = some (.int .i64 x.f0) := (hT.bin.cell (World.block_lt_of_cell? win _ hd0)).trans hd0
       have hc1 : wr.cell? ⟨(ad.add (j * 3)).block, (ad.add (j * 3)).off + 1, none⟩ = some (.bool x.f1) := (hT.bin.cell (World.block_lt_of_cell? win _ hd1)).trans hd1
       have hc2 : wr.cell? ⟨(ad.add (j * 3)).block, (ad.add (j * 3)).off + 2, none⟩ = some (.int .i64 x.f2) := (hT.bin.cell (World.block_lt_of_cell? win _ hd2)).trans hd2
       clear hd0 hd1 hd2
       have HX := zA hx
       clear hx
       have T0 := (hT.alloc KT (.cells #[.int .i64 x.f0, .bool x.f1, .int .i64 x.f2] 39)).drew KT
       have B0 : (wr.alloc (.cells #[.int .i64 x.f0, .bool x.f1, .int .i64 x.f2] 39)).drew.heap[wr.heap.size]? = some (.cells #[.int .i64 x.f0, .bool x.f1, .int .i64 x.f2] 39 (0, 0)) := Aa6 wr _
       have HV : Aa2 (some wr.heap.size ≠ v3.ownBlock) := ⟨fun e => by obtain ⟨_, in_, ho_, _⟩ := hT.r3; have := Am3 ho_ _ e.symm; omega⟩
       go_wp2_with fail
       refine Ab3 (n := 11) (S := fun w' => w'.cell? ⟨w.heap.size + 1 + 1 + 1, 4, none⟩ = some v3 ∧ w'.cell? ⟨wr.heap.size, 0, none⟩ = some (.int .i64 x.f0) ∧ w'.cell? ⟨wr.heap.size, 1, none⟩ = some (.bool x.f1) ∧ w'.cell? ⟨wr.heap.size, 2, none⟩ = some (.int .i64 x.f2)) (ds := [10]) (bm_ 11 0) (by kernel_rfl) rfl rfl ⟨(Aa0 T0.bo 4).trans rfl, (Aa0 B0 0).trans rfl, (Aa0 B0 1).trans rfl, (Aa0 B0 2).trans rfl⟩ (fun hHeld => ?_)
       generalize World.drew _ = w5 at T0 B0 hHeld ⊢
       refine pz_ 0 66 11 1 ?_
       refine pz_ 1 67 11 3 ?_
       refine pz_ 3 69 11 11 ?_
       refine tz_ 2 68 11 15 hHeld ?_
       refine tz_ 4 70 11 31 hHeld ?_
       refine oz_ 5 71 11 63 fun K hK => ?_
       refine Ay9 (fun args_ w_ => Am6 Tryz.func185 (by kernel_rfl) rfl args_ w_) #[.agg #[.int .i64 x.f0, .bool x.f1, .int .i64 x.f2]] #[.agg #[.int .i64 x.f0, .bool x.f1, .int .i64 x.f2], .pointer (some ⟨w.heap.size + 1, 0, none⟩)] (by rfl) rfl rfl (by rfl) (by simp only [List.map_toArray, List.map_cons, List.map_nil]; rfl) rfl ?_
       refine (Ap6 C (Aa4 (mval f) (Aa4 (mval f) (Aa4 f s0 sup).1 ps).1 (rs.take j)).1 x.f0 x.f1 x.f2 (w.heap.size + 1) _ ((Aa0 T0.bt 0).trans rfl) (Nat.le_trans hbase T0.size) (HQ3.out x (List.mem_of_getElem? HX.out)) T0.st).mono ?_
       rintro e w6 ⟨rfl, hS, hgr⟩
       refine ⟨_, rfl, ?_⟩
       have T1 := T0.cb KT hgr hS
       have B1 := Ab5 B0 hgr (fun e => by have := KT.row_lt _ e.symm; have := hT.size; show False; omega)
       clear hS hgr
       refine hK.out _ _ ⟨(Aa0 T1.bo 4).trans rfl, (Aa0 B1 0).trans rfl, (Aa0 B1 1).trans rfl, (Aa0 B1 2).trans rfl⟩ (fun hHeld => ?_)
       clear hK K
       refine nz_ ?_
       refine oz_ 6 72 11 127 fun K hK => ?_
       refine vz_ ?_
       refine hK.out _ _ ⟨(Aa0 (T1.alloc KT _).bo 4).trans rfl, (Aa0 (Aa5 B1 _) 0).trans rfl, (Aa0 (Aa5 B1 _) 1).trans rfl, (Aa0 (Aa5 B1 _) 2).trans rfl⟩ (fun hHeld => ?_)
       clear hK K
       refine nz_ ?_
       refine oz_ 7 73 11 255 fun K hK => ?_
       refine Kd.Ab9 k39 (w0 := w6) w.heap.size (by rfl) (.tmp 68) (.tmp 72) 27 39 (.agg #[.int .i64 0, .bool false, .int .i64 0]) 24 rfl Tryz.underlying27 Am5 rfl (by decide) (by omega) v3 _ (mval f (Aa4 (mval f) (Aa4 (mval f) (Aa4 f s0 sup).1 ps).1 (rs.take j)).1 x).2 [.int .i64 (mval f (Aa4 (mval f) (Aa4 (mval f) (Aa4 f s0 sup).1 ps).1 (rs.take j)).1 x).2.f0, .bool (mval f (Aa4 (mval f) (Aa4 (mval f) (Aa4 f s0 sup).1 ps).1 (rs.take j)).1 x).2.f1, .int .i64 (mval f (Aa4 (mval f) (Aa4 (mval f) (Aa4 f s0 sup).1 ps).1 (rs.take j)).1 x).2.f2] (fun k => True ∧ some k ≠ v2.ownBlock) (fun _ => False) rfl rfl (Ai2 _ _ _ _) (fun _ hk => hk.elim) (fun k_ hk_ => ⟨trivial, fun e => by obtain ⟨_, in_, ho_, _⟩ := T1.r2; have := Am3 ho_ k_ e.symm; omega⟩) T1.r3 (Below.refl _ _) T1.size (by rw [Ag3, List.length_take]; omega) ?_
       intro v5 w7 ho _ hg hat
       obtain ⟨l5, hl5⟩ : ∃ l_ : List S39, l_ = (Aa4 (mval f) (Aa4 (mval f) (Aa4 f s0 sup).1 ps).1 (rs.take j)).2 ++ [(mval f (Aa4 (mval f) (Aa4 (mval f) (Aa4 f s0 sup).1 ps).1 (rs.take j)).1 x).2] := ⟨_, rfl⟩
       rw [← hl5] at ho
       have HL5 := zA hl5
       clear hl5
       obtain ⟨bs, bt, bo, br⟩ := T1.blocks T1.r3 (by decide) (by decide) hg
       have T3 := T1.put3 KT ho hg hat
       have B3 := Ab5 B1 hg HV.out
       obtain ⟨A5, c5, e5⟩ := Kd.Aa9 ho
       subst e5
       refine hK.out _ _ ⟨(Aa0 bo 4).trans rfl, (Aa0 B3 0).trans rfl, (Aa0 B3 1).trans rfl, (Aa0 B3 2).trans rfl⟩ (fun hHeld => ?_)
       clear hK K
       refine nz_ ?_
       refine pz_ 8 74 11 511 ?_
       refine pz_ 9 75 11 1023 ?_
       refine Ag8 (i := 10) (N := none) (bm_ 11 2047) rfl rfl (by kernel_rfl) (by decide) (fun K hK => ?_)
       have hs_ : w7.cell? ⟨w.heap.size + 1 + 1 + 1, 4, none⟩ = some v3 := (Aa0 bo 4).trans rfl
       have hfs_ : w7.frozen? ⟨w.heap.size + 1 + 1 + 1, 4, none⟩ = false := Aa1 bo 4
       refine sz_ ?_
       refine hK.out _ _ ?_
       clear hK K
       refine dz_ ?_
       go_wp2_with fail
       go_roundw
       case rel => exact ⟨j + 1, _, by go_num, by omega, by have e := Ai5 (mval f) (Aa4 (mval f) (Aa4 f s0 sup).1 ps).1 rs j x HX.out; rw [e]; dsimp only; rw [← HL5.out]; exact T3⟩
       case measure => simp [intOf]; omega
      ·obtain rfl : j = rs.length := by omega
       rw [List.take_length] at hT
       have cn : wr.cell? ⟨w.heap.size, 5, none⟩ = some (.slice A4 fs.length c4) := (Aa0 hT.bs 5).trans rfl
       clear hj hlt
       have TS := hT
       clear hT
       go_wp2_with fail
       go_loopw [81] (fun i W => ∃ (j : Nat) (v4 : Value), i = .int .i64 j ∧ j ≤ fs.length ∧ T (mkTX row St (.func (.func k) #[] cap) win w fin kind A1 c1 sup A2 c2 ps A3 c3 rs A4 c4 fs) v1 v2 v3 v4 (Aa4 (Ai3 f) (Aa4 (mval f) (Aa4 (mval f) (Aa4 f s0 sup).1 ps).1 rs).1 (fs.take j)).1 (Aa4 f s0 sup).2 (Aa4 (mval f) (Aa4 f s0 sup).1 ps).2 (Aa4 (mval f) (Aa4 (mval f) (Aa4 f s0 sup).1 ps).1 rs).2 (Aa4 (Ai3 f) (Aa4 (mval f) (Aa4 (mval f) (Aa4 f s0 sup).1 ps).1 rs).1 (fs.take j)).2 W) (fun i _ => fs.length - (intOf i).toNat)
       case atStart => exact ⟨0, _, rfl, Nat.zero_le _, TS⟩
       case round =>
        clear TS
        obtain ⟨j, v4, rfl, hj, hT⟩ := hrel
        by_cases hlt : j < fs.length
        ·obtain ⟨ad, x, rfl, hx, hd0, hd1, hd2, hd3⟩ := at_FT' HR4.out j hlt
         have hc0 : wr.cell? (ad.add (j * 4)) = some (.int .i64 x.f0.f0) := (hT.bin.cell (World.block_lt_of_cell? win _ hd0)).trans hd0
         have hc1 : wr.cell? ⟨(ad.add (j * 4)).block, (ad.add (j * 4)).off + 1, none⟩ = some (.bool x.f0.f1) := (hT.bin.cell (World.block_lt_of_cell? win _ hd1)).trans hd1
         have hc2 : wr.cell? ⟨(ad.add (j * 4)).block, (ad.add (j * 4)).off + 2, none⟩ = some (.int .i64 x.f0.f2) := (hT.bin.cell (World.block_lt_of_cell? win _ hd2)).trans hd2
         have hc3 : wr.cell? ⟨(ad.add (j * 4)).block, (ad.add (j * 4)).off + 3, none⟩ = some (.bool x.f1) := (hT.bin.cell (World.block_lt_of_cell? win _ hd3)).trans hd3
         clear hd0 hd1 hd2 hd3
         have HX := zA hx
         clear hx
         have T0 := (hT.alloc KT (.cells #[.int .i64 x.f0.f0, .bool x.f0.f1, .int .i64 x.f0.f2, .bool x.f1] 172)).drew KT
         have B0 : (wr.alloc (.cells #[.int .i64 x.f0.f0, .bool x.f0.f1, .int .i64 x.f0.f2, .bool x.f1] 172)).drew.heap[wr.heap.size]? = some (.cells #[.int .i64 x.f0.f0, .bool x.f0.f1, .int .i64 x.f0.f2, .bool x.f1] 172 (0, 0)) := Aa6 wr _
         have HV : Aa2 (some wr.heap.size ≠ v4.ownBlock) := ⟨fun e => by obtain ⟨_, in_, ho_, _⟩ := hT.r4; have := Am3 ho_ _ e.symm; omega⟩
         go_wp2_with fail
         refine Ab3 (n := 15) (S := fun w' => w'.cell? ⟨w.heap.size + 1 + 1 + 1, 5, none⟩ = some v4 ∧ w'.cell? ⟨wr.heap.size, 0, none⟩ = some (.int .i64 x.f0.f0) ∧ w'.cell? ⟨wr.heap.size, 1, none⟩ = some (.bool x.f0.f1) ∧ w'.cell? ⟨wr.heap.size, 2, none⟩ = some (.int .i64 x.f0.f2) ∧ w'.cell? ⟨wr.heap.size, 3, none⟩ = some (.bool x.f1)) (ds := [14]) (bm_ 15 0) (by kernel_rfl) rfl rfl ⟨(Aa0 T0.bo 5).trans rfl, (Aa0 B0 0).trans rfl, (Aa0 B0 1).trans rfl, (Aa0 B0 2).trans rfl, (Aa0 B0 3).trans rfl⟩ (fun hHeld => ?_)
         generalize World.drew _ = w5 at T0 B0 hHeld ⊢
         refine pz_ 0 85 15 1 ?_
         refine pz_ 1 86 15 3 ?_
         refine pz_ 3 88 15 11 ?_
         refine pz_ 4 89 15 27 ?_
         refine pz_ 7 92 15 155 ?_
         refine tz_ 2 87 15 159 hHeld ?_
         refine tz_ 5 90 15 191 hHeld ?_
         refine tz_ 8 93 15 447 hHeld ?_
         refine oz_ 6 91 15 511 fun K hK => ?_
         refine Ay9 (fun args_ w_ => Am6 Tryz.func185 (by kernel_rfl) rfl args_ w_) #[.agg #[.int .i64 x.f0.f0, .bool x.f0.f1, .int .i64 x.f0.f2]] #[.agg #[.int .i64 x.f0.f0, .bool x.f0.f1, .int .i64 x.f0.f2], .pointer (some ⟨w.heap.size + 1, 0, none⟩)] (by rfl) rfl rfl (by rfl) (by simp only [List.map_toArray, List.map_cons, List.map_nil]; rfl) rfl ?_
         refine (Ap6 C (Aa4 (Ai3 f) (Aa4 (mval f) (Aa4 (mval f) (Aa4 f s0 sup).1 ps).1 rs).1 (fs.take j)).1 x.f0.f0 x.f0.f1 x.f0.f2 (w.heap.size + 1) _ ((Aa0 T0.bt 0).trans rfl) (Nat.le_trans hbase T0.size) (HQ4.out x (List.mem_of_getElem? HX.out)) T0.st).mono ?_
         rintro e w6 ⟨rfl, hS, hgr⟩
         refine ⟨_, rfl, ?_⟩
         have T1 := T0.cb KT hgr hS
         have B1 := Ab5 B0 hgr (fun e => by have := KT.row_lt _ e.symm; have := hT.size; show False; omega)
         clear hS hgr
         refine hK.out _ _ ⟨(Aa0 T1.bo 5).trans rfl, (Aa0 B1 0).trans rfl, (Aa0 B1 1).trans rfl, (Aa0 B1 2).trans rfl, (Aa0 B1 3).trans rfl⟩ (fun hHeld => ?_)
         clear hK K
         refine nz_ ?_
         refine pz_ 9 94 15 1023 ?_
         refine oz_ 10 95 15 2047 fun K hK => ?_
         refine vz_ ?_
         refine hK.out _ _ ⟨(Aa0 (T1.alloc KT _).bo 5).trans rfl, (Aa0 (Aa5 B1 _) 0).trans rfl, (Aa0 (Aa5 B1 _) 1).trans rfl, (Aa0 (Aa5 B1 _) 2).trans rfl, (Aa0 (Aa5 B1 _) 3).trans rfl⟩ (fun hHeld => ?_)
         clear hK K
         refine nz_ ?_
         refine oz_ 11 96 15 4095 fun K hK => ?_
         refine Kd.Ab9 k172 (w0 := w6) w.heap.size (by rfl) (.tmp 87) (.tmp 95) 119 172 (.agg #[.int .i64 0, .bool false, .int .i64 0, .bool false]) 32 rfl Tryz.underlying119 Bm1 rfl (by decide) (by omega) v4 _ (Ai3 f (Aa4 (Ai3 f) (Aa4 (mval f) (Aa4 (mval f) (Aa4 f s0 sup).1 ps).1 rs).1 (fs.take j)).1 x).2 [.int .i64 (mval f (Aa4 (Ai3 f) (Aa4 (mval f) (Aa4 (mval f) (Aa4 f s0 sup).1 ps).1 rs).1 (fs.take j)).1 x.f0).2.f0, .bool (mval f (Aa4 (Ai3 f) (Aa4 (mval f) (Aa4 (mval f) (Aa4 f s0 sup).1 ps).1 rs).1 (fs.take j)).1 x.f0).2.f1, .int .i64 (mval f (Aa4 (Ai3 f) (Aa4 (mval f) (Aa4 (mval f) (Aa4 f s0 sup).1 ps).1 rs).1 (fs.take j)).1 x.f0).2.f2, .bool x.f1] (fun _ => True) (fun _ => False) rfl rfl (Bl8 _ _ _ _) (fun _ hk => hk.elim) (fun _ _ => trivial) T1.r4 (Below.refl _ _) T1.size (by rw [Ag3, List.length_take]; omega) ?_
         intro v5 w7 ho _ hg hat
         obtain ⟨l5, hl5⟩ : ∃ l_ : List S172, l_ = (Aa4 (Ai3 f) (Aa4 (mval f) (Aa4 (mval f) (Aa4 f s0 sup).1 ps).1 rs).1 (fs.take j)).2 ++ [(Ai3 f (Aa4 (Ai3 f) (Aa4 (mval f) (Aa4 (mval f) (Aa4 f s0 sup).1 ps).1 rs).1 (fs.take j)).1 x).2] := ⟨_, rfl⟩
         rw [← hl5] at ho
         have HL5 := zA hl5
         clear hl5
         obtain ⟨bs, bt, bo, br⟩ := T1.blocks T1.r4 (by decide) (by decide) hg
         have T3 := T1.put4 KT ho hg
         have B3 := Ab5 B1 hg HV.out
         obtain ⟨A5, c5, e5⟩ := Kd.Aa9 ho
         subst e5
         refine hK.out _ _ ⟨(Aa0 bo 5).trans rfl, (Aa0 B3 0).trans rfl, (Aa0 B3 1).trans rfl, (Aa0 B3 2).trans rfl, (Aa0 B3 3).trans rfl⟩ (fun hHeld => ?_)
         clear hK K
         refine nz_ ?_
         refine pz_ 12 97 15 8191 ?_
         refine pz_ 13 98 15 16383 ?_
         refine Ag8 (i := 14) (N := none) (bm_ 15 32767) rfl rfl (by kernel_rfl) (by decide) (fun K hK => ?_)
         have hs_ : w7.cell? ⟨w.heap.size + 1 + 1 + 1, 5, none⟩ = some v4 := (Aa0 bo 5).trans rfl
         have hfs_ : w7.frozen? ⟨w.heap.size + 1 + 1 + 1, 5, none⟩ = false := Aa1 bo 5
         refine sz_ ?_
         refine hK.out _ _ ?_
         clear hK K
         refine dz_ ?_
         go_wp2_with fail
         go_roundw
         case rel => exact ⟨j + 1, _, by go_num, by omega, by have e := Ai5 (Ai3 f) (Aa4 (mval f) (Aa4 (mval f) (Aa4 f s0 sup).1 ps).1 rs).1 fs j x HX.out; rw [e]; dsimp only; rw [← HL5.out]; exact T3⟩
         case measure => simp [intOf]; omega
        ·obtain rfl : j = fs.length := by omega
         rw [List.take_length] at hT
         have co0 : wr.cell? ⟨w.heap.size + 1 + 1 + 1, 0, none⟩ = some (.bool fin) := (Aa0 hT.bo 0).trans rfl
         have co1 : wr.cell? ⟨w.heap.size + 1 + 1 + 1, 1, none⟩ = some (v1) := (Aa0 hT.bo 1).trans rfl
         have co2 : wr.cell? ⟨w.heap.size + 1 + 1 + 1, 2, none⟩ = some (.int .i64 kind) := (Aa0 hT.bo 2).trans rfl
         have co3 : wr.cell? ⟨w.heap.size + 1 + 1 + 1, 3, none⟩ = some (v2) := (Aa0 hT.bo 3).trans rfl
         have co4 : wr.cell? ⟨w.heap.size + 1 + 1 + 1, 4, none⟩ = some (v3) := (Aa0 hT.bo 4).trans rfl
         have co5 : wr.cell? ⟨w.heap.size + 1 + 1 + 1, 5, none⟩ = some (v4) := (Aa0 hT.bo 5).trans rfl
         have cr0 : wr.cell? ⟨w.heap.size + 1 + 1, 0, none⟩ = some (.bool false) := (Aa0 hT.br 0).trans rfl
         have fr0 : wr.frozen? ⟨w.heap.size + 1 + 1, 0, none⟩ = false := Aa1 hT.br 0
         have cr1 : wr.cell? ⟨w.heap.size + 1 + 1, 1, none⟩ = some (.slice none 0 0) := (Aa0 hT.br 1).trans rfl
         have fr1 : wr.frozen? ⟨w.heap.size + 1 + 1, 1, none⟩ = false := Aa1 hT.br 1
         have cr2 : wr.cell? ⟨w.heap.size + 1 + 1, 2, none⟩ = some (.int .i64 0) := (Aa0 hT.br 2).trans rfl
         have fr2 : wr.frozen? ⟨w.heap.size + 1 + 1, 2, none⟩ = false := Aa1 hT.br 2
         have cr3 : wr.cell? ⟨w.heap.size + 1 + 1, 3, none⟩ = some (.slice none 0 0) := (Aa0 hT.br 3).trans rfl
         have fr3 : wr.frozen? ⟨w.heap.size + 1 + 1, 3, none⟩ = false := Aa1 hT.br 3
         have cr4 : wr.cell? ⟨w.heap.size + 1 + 1, 4, none⟩ = some (.slice none 0 0) := (Aa0 hT.br 4).trans rfl
         have fr4 : wr.frozen? ⟨w.heap.size + 1 + 1, 4, none⟩ = false := Aa1 hT.br 4
         have cr5 : wr.cell? ⟨w.heap.size + 1 + 1, 5, none⟩ = some (.slice none 0 0) := (Aa0 hT.br 5).trans rfl
         have fr5 : wr.frozen? ⟨w.heap.size + 1 + 1, 5, none⟩ = false := Aa1 hT.br 5
         obtain ⟨B1, d1, e1⟩ := Kd.Aa9 hT.r1
         subst e1
         obtain ⟨B2, d2, e2⟩ := Kd.Aa9 hT.r2
         subst e2
         obtain ⟨B3, d3, e3⟩ := Kd.Aa9 hT.r3
         subst e3
         obtain ⟨B4, d4, e4⟩ := Kd.Aa9 hT.r4
         subst e4
         clear hj hlt
         have TS := hT
         clear hT
         go_wp2_with fail
         refine bodyPost_ret (results_cell_row rfl _ _ (w.heap.size + 1 + 1) 123 #[.bool fin, (.slice B1 (Aa4 f s0 sup).2.length d1), .int .i64 kind, (.slice B2 (Aa4 (mval f) (Aa4 f s0 sup).1 ps).2.length d2), (.slice B3 (Aa4 (mval f) (Aa4 (mval f) (Aa4 f s0 sup).1 ps).1 rs).2.length d3), (.slice B4 (Aa4 (Ai3 f) (Aa4 (mval f) (Aa4 (mval f) (Aa4 f s0 sup).1 ps).1 rs).1 fs).2.length d4)] (0, 0) _ rfl (Aa7 (Aa7 (Aa7 (Aa7 (Aa7 (Aa7 TS.br 0 _) 1 _) 2 _) 3 _) 4 _) 5 _) Tryz.underlying123 rfl (by kernel_rfl)) rfl ?_
         obtain ⟨e1, e2, e3, e4, e5, e6⟩ := T.ends TS KT (.bool fin) (.slice B1 (Aa4 f s0 sup).2.length d1) (.int .i64 kind) (.slice B2 (Aa4 (mval f) (Aa4 f s0 sup).1 ps).2.length d2) (.slice B3 (Aa4 (mval f) (Aa4 (mval f) (Aa4 f s0 sup).1 ps).1 rs).2.length d3) (.slice B4 (Aa4 (Ai3 f) (Aa4 (mval f) (Aa4 (mval f) (Aa4 f s0 sup).1 ps).1 rs).1 fs).2.length d4)
         exact ⟨_, _, _, _, rfl, e1, e2, e3, e4, e5, e6.to_grown⟩
end Go.Proofs.YtohlmkcgempdlaaGreatDoor.Cn
