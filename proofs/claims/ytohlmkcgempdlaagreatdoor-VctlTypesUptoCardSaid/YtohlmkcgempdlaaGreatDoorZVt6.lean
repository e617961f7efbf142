/- Parts of the proof of vctlTypes_holds (6 of 12): what it says and shows stands at its declarations. -/
import Derived.Test.YtohlmkcgempdlaaGreatDoorZVt5
import Derived.LoopTactic
namespace Go.Proofs.YtohlmkcgempdlaaGreatDoor.Cn
set_option linter.unusedSimpArgs false
set_option linter.unusedVariables false
open Go.RowKit Go.Proofs.YtohlmkcgempdlaaGreatDoorW.PrintWords Go.Proofs.YtohlmkcgempdlaaGreatDoorW.PrintLast Go.Proofs.YtohlmkcgempdlaaGreatDoorW.PrintMore Go.Proofs.YtohlmkcgempdlaaGreatDoor.QD
def tfield {σ : Type} (f : σ → Int → σ × Int) (s : σ) (x : S172) : σ × S172 := ((tval f s x.f0).1, ⟨(tval f s x.f0).2, x.f1⟩)
set_option maxRecDepth 100000 in
set_option maxHeartbeats 8000000 in
theorem turned_calls {base : Nat} {row : Option Nat} {σ : Type} {Q : Int → Prop} {St : σ → World → Prop} {f : σ → Int → σ × Int} {fv : Value} (C : Cb base row Q St f fv) (win : World) (s0 : σ) (fin : Bool) (kind : Int)
    (A1 : Option Addr) (c1 : Nat) (sup : List Int) (A2 : Option Addr) (c2 : Nat) (ps : List S39) (A3 : Option Addr) (c3 : Nat) (rs : List S39) (A4 : Option Addr) (c4 : Nat) (fs : List S172) (w : World) (hbase : base ≤ w.heap.size)
    (hwin : Below win.heap.size win w) (hrow : ∀ k, row = some k → win.heap.size ≤ k) (hs : St s0 w)
    (hr1 : Kd.C (Kd.int .i64) win A1 sup.length sup) (hr2 : Kd.C k39 win A2 ps.length ps) (hr3 : Kd.C k39 win A3 rs.length rs) (hr4 : Kd.C k172 win A4 fs.length fs)
    (hq1 : ∀ h ∈ sup, Q h) (hq2 : ∀ v ∈ ps, v.f0 = 5 → Q v.f2) (hq3 : ∀ v ∈ rs, v.f0 = 5 → Q v.f2) (hq4 : ∀ v ∈ fs, v.f0.f0 = 5 → Q v.f0.f2)
    (hl1 : sup.length * 8 ≤ 140737488351232) (hl2 : ps.length * 24 ≤ 140737488351232) (hl3 : rs.length * 24 ≤ 140737488351232) (hl4 : fs.length * 32 ≤ 140737488351232) :
    Calls Tryz.prog 108 #[.agg #[.bool fin, .slice A1 sup.length c1, .int .i64 kind, .slice A2 ps.length c2, .slice A3 rs.length c3, .slice A4 fs.length c4], fv] w fun e w' => ∃ v1 v2 v3 v4 : Value, e = .returned (.agg #[.bool fin, v1, .int .i64 kind, v2, v3, v4]) ∧
      Kd.R (Kd.int .i64) 3 w' w.heap.size (fun _ => True) v1 (foldm f s0 sup).2 ∧ Kd.R k39 39 w' w.heap.size (fun _ => True) v2 (foldm (tval f) (foldm f s0 sup).1 ps).2 ∧ Kd.R k39 39 w' w.heap.size (fun _ => True) v3 (foldm (tval f) (foldm (tval f) (foldm f s0 sup).1 ps).1 rs).2 ∧ Kd.R k172 172 w' w.heap.size (fun _ => True) v4 (foldm (tfield f) (foldm (tval f) (foldm (tval f) (foldm f s0 sup).1 ps).1 rs).1 fs).2 ∧
      St (foldm (tfield f) (foldm (tval f) (foldm (tval f) (foldm f s0 sup).1 ps).1 rs).1 fs).1 w' ∧ w.grownBy w' row := by
  have KT := mkTOk C hbase hwin hrow fin kind A1 c1 sup A2 c2 ps A3 c3 rs A4 c4 fs
  obtain ⟨k, cap, rfl, hcf, hcall⟩ := C.call
  have TS := T.start KT hwin hs
  have HQ1 := Aside0.mk hq1
  have HQ2 := Aside0.mk hq2
  have HQ3 := Aside0.mk hq3
  have HQ4 := Aside0.mk hq4
  have HCALL := Aside0.mk hcall
  have HR1 := Aside0.mk hr1
  have HR2 := Aside0.mk hr2
  have HR3 := Aside0.mk hr3
  have HR4 := Aside0.mk hr4
  clear hq1 hq2 hq3 hq4 hcall hr1 hr2 hr3 hr4 hrow hs
  go_enter Tryz.func108, Tryz.ntmps108
  go_wp2_with fail
  go_loopw [26] (fun i W => ∃ (j : Nat) (v1 : Value), i = .int .i64 j ∧ j ≤ sup.length ∧ T (mkTX row St (.func (.func k) #[] cap) win w fin kind A1 c1 sup A2 c2 ps A3 c3 rs A4 c4 fs) v1 (.slice none 0 0) (.slice none 0 0) (.slice none 0 0) (foldm f s0 (sup.take j)).1 (foldm f s0 (sup.take j)).2 [] [] [] W) (fun i _ => sup.length - (intOf i).toNat)
  case atStart => exact ⟨0, _, rfl, Nat.zero_le _, TS⟩
  case round =>
    clear TS
    obtain ⟨j, v1, rfl, hj, hT⟩ := hrel
    by_cases hlt : j < sup.length
    · obtain ⟨ad, x, rfl, hx, hcx0⟩ := at_int' HR1.out j hlt
      have hcx : wr.cell? (ad.add j) = some (.int .i64 x) := (hT.bin.cell (World.block_lt_of_cell? win _ hcx0)).trans hcx0
      have HX := Aside0.mk hx
      clear hx hcx0
      have T0 := hT.drew KT
      go_wp2_with fail
      refine start_ (n := 9) (S := fun w' => w'.cell? ⟨w.heap.size + 1 + 1 + 1, 1, none⟩ = some v1 ∧ w'.cell? ⟨w.heap.size + 1, 0, none⟩ = some (.func (.func k) #[] cap)) (ds := [8]) #[false, false, false, false, false, false, false, false, false] (by kernel_rfl) rfl rfl ⟨(blk_cell T0.bo 1).trans rfl, (blk_cell T0.bt 0).trans rfl⟩ (fun hHeld => ?_)
      generalize wr.drew = w5 at T0 hHeld ⊢
      refine pure_ (i := 0) (N := some 30) (v := ?_) (a' := ?_) #[true, false, false, false, false, false, false, false, false] rfl rfl (by kernel_rfl) (fun _ _ _ h => h) (Or.inl ⟨by rfl, ?_⟩) ?_ ?_
      rotate_left
      · intro w'
        go_simp
        with_reducible rfl
      rotate_left
      · simp only [Act.put, List.setIfInBounds_toArray, List.set_cons_zero, List.set_cons_succ, i64_w, i32_w]
        rfl
      refine pure_ (i := 3) (N := some 33) (v := ?_) (a' := ?_) #[true, false, false, true, false, false, false, false, false] rfl rfl (by kernel_rfl) (fun _ _ _ h => h) (Or.inl ⟨by rfl, ?_⟩) ?_ ?_
      rotate_left
      · intro w'
        go_simp
        with_reducible rfl
      rotate_left
      · simp only [Act.put, List.setIfInBounds_toArray, List.set_cons_zero, List.set_cons_succ, i64_w, i32_w]
        rfl
      refine take_ (i := 1) (N := some 31) (v := ?_) (a' := ?_) #[true, true, false, true, false, false, false, false, false] rfl rfl (by kernel_rfl) (fun _ _ _ h => h) (Or.inl ⟨by rfl, ?_⟩) hHeld ?_ ?_
      rotate_left
      · rintro w' ⟨s0, s1⟩
        go_simp
        with_reducible rfl
      rotate_left
      · simp only [Act.put, List.setIfInBounds_toArray, List.set_cons_zero, List.set_cons_succ, i64_w, i32_w]
        rfl
      refine take_ (i := 2) (N := some 32) (v := ?_) (a' := ?_) #[true, true, true, true, false, false, false, false, false] rfl rfl (by kernel_rfl) (fun _ _ _ h => h) (Or.inl ⟨by rfl, ?_⟩) hHeld ?_ ?_
      rotate_left
      · rintro w' ⟨s0, s1⟩
        go_simp
        with_reducible rfl
      rotate_left
      · simp only [Act.put, List.setIfInBounds_toArray, List.set_cons_zero, List.set_cons_succ, i64_w, i32_w]
        rfl
      refine one_ (i := 4) (N := some 34) #[true, true, true, true, true, false, false, false, false] rfl rfl (by kernel_rfl) (by decide) (fun K hK => ?_)
      refine goesF_ hcf #[.int .i64 x] (#[.int .i64 x] ++ cap) (by rfl) rfl rfl (by rfl) (by simp only [List.map_toArray, List.map_cons, List.map_nil]; rfl) rfl ?_
      refine (HCALL.out _ x _ (Nat.le_trans hbase T0.size) (HQ1.out x (List.mem_of_getElem? HX.out)) T0.st).mono ?_
      rintro e w6 ⟨rfl, hS, hgr⟩
      refine ⟨_, rfl, ?_⟩
      have T1 := T0.cb KT hgr hS
      clear hS hgr
      refine hK.out _ _ ⟨(blk_cell T1.bo 1).trans rfl, (blk_cell T1.bt 0).trans rfl⟩ (fun hHeld => ?_)
      clear hK K
      refine norm_ (a' := ?_) ?_ ?_
      rotate_left
      · show Act.put _ (some 34) _ = _
        simp only [Act.put, List.setIfInBounds_toArray, List.set_cons_zero, List.set_cons_succ, i64_w, i32_w]
        rfl
      refine one_ (i := 5) (N := some 35) #[true, true, true, true, true, true, false, false, false] rfl rfl (by kernel_rfl) (by decide) (fun K hK => ?_)
      refine value_ (w1 := ?_) (v := ?_) (by rfl) rfl ?_ ?_
      rotate_left 2
      · go_simp
        constructor
        · rfl
        · rfl
      refine hK.out _ _ ⟨(blk_cell (T1.alloc KT _).bo 1).trans rfl, (blk_cell (T1.alloc KT _).bt 0).trans rfl⟩ (fun hHeld => ?_)
      clear hK K
      refine norm_ (a' := ?_) ?_ ?_
      rotate_left
      · show Act.put _ (some 35) _ = _
        simp only [Act.put, List.setIfInBounds_toArray, List.set_cons_zero, List.set_cons_succ, i64_w, i32_w]
        rfl
      refine one_ (i := 6) (N := some 36) #[true, true, true, true, true, true, true, false, false] rfl rfl (by kernel_rfl) (by decide) (fun K hK => ?_)
      refine Kd.R_append_step (Kd.int .i64) (w0 := w6) w.heap.size (by rfl) (.tmp 31) (.tmp 35) 23 3 (.int .i64 0) 8 rfl Tryz.underlying23 info3 rfl (by decide) (by omega) v1 _ (f (foldm f s0 (sup.take j)).1 x).2 [.int .i64 (f (foldm f s0 (sup.take j)).1 x).2] (fun _ => True) (fun _ => False) rfl rfl rfl (fun _ hk => hk.elim) (fun _ _ => trivial) T1.r1 (Below.refl _ _) T1.size (by rw [foldm_length, List.length_take]; omega) ?_
      intro v5 w7 ho _ hg hat
      obtain ⟨l5, hl5⟩ : ∃ l_ : List Int, l_ = (foldm f s0 (sup.take j)).2 ++ [(f (foldm f s0 (sup.take j)).1 x).2] := ⟨_, rfl⟩
      rw [← hl5] at ho
      have HL5 := Aside0.mk hl5
      clear hl5
      obtain ⟨bs, bt, bo, br⟩ := T1.blocks T1.r1 (by decide) (by decide) hg
      have T3 := T1.put1 KT ho hg
      obtain ⟨A5, c5, e5⟩ := Kd.R_slice ho
      subst e5
      refine hK.out _ _ ⟨(blk_cell bo 1).trans rfl, (blk_cell bt 0).trans rfl⟩ (fun hHeld => ?_)
      clear hK K
      refine norm_ (a' := ?_) ?_ ?_
      rotate_left
      · show Act.put _ (some 36) _ = _
        simp only [Act.put, List.setIfInBounds_toArray, List.set_cons_zero, List.set_cons_succ, i64_w, i32_w]
        rfl
      refine pure_ (i := 7) (N := some 37) (v := ?_) (a' := ?_) #[true, true, true, true, true, true, true, true, false] rfl rfl (by kernel_rfl) (fun _ _ _ h => h) (Or.inl ⟨by rfl, ?_⟩) ?_ ?_
      rotate_left
      · intro w'
        go_simp
        with_reducible rfl
      rotate_left
      · simp only [Act.put, List.setIfInBounds_toArray, List.set_cons_zero, List.set_cons_succ, i64_w, i32_w]
        rfl
      refine last_ (i := 8) (N := none) #[true, true, true, true, true, true, true, true, true] rfl rfl (by kernel_rfl) (by decide) (fun K hK => ?_)
      have hs_ : w7.cell? ⟨w.heap.size + 1 + 1 + 1, 1, none⟩ = some v1 := (blk_cell bo 1).trans rfl
      have hfs_ : w7.frozen? ⟨w.heap.size + 1 + 1 + 1, 1, none⟩ = false := blk_frozen bo 1
      refine skip_ (w1 := ?_) (by rfl) rfl ?_ ?_
      rotate_left
      · go_simp
        rfl
      refine hK.out _ _ ?_
      clear hK K
      refine done_ (by kernel_rfl) ?_

      go_wp2_with fail
      go_roundw
      case rel => exact ⟨j + 1, _, by go_num, by omega, by have e := foldm_take f s0 sup j x HX.out; rw [e]; dsimp only; rw [← HL5.out]; exact T3⟩
      case measure => simp [intOf]; omega
    · obtain rfl : j = sup.length := by omega
      rw [List.take_length] at hT
      have cn : wr.cell? ⟨w.heap.size, 3, none⟩ = some (.slice A2 ps.length c2) := (blk_cell hT.bs 3).trans rfl
      clear hj hlt
      have TS := hT
      clear hT
      go_wp2_with fail
      go_loopw [43] (fun i W => ∃ (j : Nat) (v2 : Value), i = .int .i64 j ∧ j ≤ ps.length ∧ T (mkTX row St (.func (.func k) #[] cap) win w fin kind A1 c1 sup A2 c2 ps A3 c3 rs A4 c4 fs) v1 v2 (.slice none 0 0) (.slice none 0 0) (foldm (tval f) (foldm f s0 sup).1 (ps.take j)).1 (foldm f s0 sup).2 (foldm (tval f) (foldm f s0 sup).1 (ps.take j)).2 [] [] W) (fun i _ => ps.length - (intOf i).toNat)
      case atStart => exact ⟨0, _, rfl, Nat.zero_le _, TS⟩
      case round =>
        clear TS
        obtain ⟨j, v2, rfl, hj, hT⟩ := hrel
        by_cases hlt : j < ps.length
        · obtain ⟨ad, x, rfl, hx, hd0, hd1, hd2⟩ := at_VT' HR2.out j hlt
          have hc0 : wr.cell? (ad.add (j * 3)) = some (.int .i64 x.f0) := (hT.bin.cell (World.block_lt_of_cell? win _ hd0)).trans hd0
          have hc1 : wr.cell? ⟨(ad.add (j * 3)).block, (ad.add (j * 3)).off + 1, none⟩ = some (.bool x.f1) := (hT.bin.cell (World.block_lt_of_cell? win _ hd1)).trans hd1
          have hc2 : wr.cell? ⟨(ad.add (j * 3)).block, (ad.add (j * 3)).off + 2, none⟩ = some (.int .i64 x.f2) := (hT.bin.cell (World.block_lt_of_cell? win _ hd2)).trans hd2
          clear hd0 hd1 hd2
          have HX := Aside0.mk hx
          clear hx
          have T0 := (hT.alloc KT (.cells #[.int .i64 x.f0, .bool x.f1, .int .i64 x.f2] 39)).drew KT
          have B0 : (wr.alloc (.cells #[.int .i64 x.f0, .bool x.f1, .int .i64 x.f2] 39)).drew.heap[wr.heap.size]? = some (.cells #[.int .i64 x.f0, .bool x.f1, .int .i64 x.f2] 39 (0, 0)) := blk_new wr _
          have HV : Aside0 (some wr.heap.size ≠ v2.ownBlock) := ⟨fun e => by obtain ⟨_, in_, ho_, _⟩ := hT.r2; have := own_lt ho_ _ e.symm; omega⟩
          go_wp2_with fail
          refine start_ (n := 11) (S := fun w' => w'.cell? ⟨w.heap.size + 1 + 1 + 1, 3, none⟩ = some v2 ∧ w'.cell? ⟨wr.heap.size, 0, none⟩ = some (.int .i64 x.f0) ∧ w'.cell? ⟨wr.heap.size, 1, none⟩ = some (.bool x.f1) ∧ w'.cell? ⟨wr.heap.size, 2, none⟩ = some (.int .i64 x.f2)) (ds := [10]) #[false, false, false, false, false, false, false, false, false, false, false] (by kernel_rfl) rfl rfl ⟨(blk_cell T0.bo 3).trans rfl, (blk_cell B0 0).trans rfl, (blk_cell B0 1).trans rfl, (blk_cell B0 2).trans rfl⟩ (fun hHeld => ?_)
          generalize World.drew _ = w5 at T0 B0 hHeld ⊢
          refine pure_ (i := 0) (N := some 47) (v := ?_) (a' := ?_) #[true, false, false, false, false, false, false, false, false, false, false] rfl rfl (by kernel_rfl) (fun _ _ _ h => h) (Or.inl ⟨by rfl, ?_⟩) ?_ ?_
          rotate_left
          · intro w'
            go_simp
            with_reducible rfl
          rotate_left
          · simp only [Act.put, List.setIfInBounds_toArray, List.set_cons_zero, List.set_cons_succ, i64_w, i32_w]
            rfl
          refine pure_ (i := 1) (N := some 48) (v := ?_) (a' := ?_) #[true, true, false, false, false, false, false, false, false, false, false] rfl rfl (by kernel_rfl) (fun _ _ _ h => h) (Or.inl ⟨by rfl, ?_⟩) ?_ ?_
          rotate_left
          · intro w'
            go_simp
            with_reducible rfl
          rotate_left
          · simp only [Act.put, List.setIfInBounds_toArray, List.set_cons_zero, List.set_cons_succ, i64_w, i32_w]
            rfl
          refine pure_ (i := 3) (N := some 50) (v := ?_) (a' := ?_) #[true, true, false, true, false, false, false, false, false, false, false] rfl rfl (by kernel_rfl) (fun _ _ _ h => h) (Or.inl ⟨by rfl, ?_⟩) ?_ ?_
          rotate_left
          · intro w'
            go_simp
            with_reducible rfl
          rotate_left
          · simp only [Act.put, List.setIfInBounds_toArray, List.set_cons_zero, List.set_cons_succ, i64_w, i32_w]
            rfl
          refine take_ (i := 2) (N := some 49) (v := ?_) (a' := ?_) #[true, true, true, true, false, false, false, false, false, false, false] rfl rfl (by kernel_rfl) (fun _ _ _ h => h) (Or.inl ⟨by rfl, ?_⟩) hHeld ?_ ?_
          rotate_left
          · rintro w' ⟨s0, s1, s2, s3⟩
            go_simp
            with_reducible rfl
          rotate_left
          · simp only [Act.put, List.setIfInBounds_toArray, List.set_cons_zero, List.set_cons_succ, i64_w, i32_w]
            rfl
          refine take_ (i := 4) (N := some 51) (v := ?_) (a' := ?_) #[true, true, true, true, true, false, false, false, false, false, false] rfl rfl (by kernel_rfl) (fun _ _ _ h => h) (Or.inl ⟨by rfl, ?_⟩) hHeld ?_ ?_
          rotate_left
          · rintro w' ⟨s0, s1, s2, s3⟩
            go_simp
            with_reducible rfl
          rotate_left
          · simp only [Act.put, List.setIfInBounds_toArray, List.set_cons_zero, List.set_cons_succ, i64_w, i32_w]
            rfl
          refine one_ (i := 5) (N := some 52) #[true, true, true, true, true, true, false, false, false, false, false] rfl rfl (by kernel_rfl) (by decide) (fun K hK => ?_)
          refine goesF_ (fun args_ w_ => enters_ Tryz.func136 (by kernel_rfl) rfl args_ w_) #[.agg #[.int .i64 x.f0, .bool x.f1, .int .i64 x.f2]] #[.agg #[.int .i64 x.f0, .bool x.f1, .int .i64 x.f2], .pointer (some ⟨w.heap.size + 1, 0, none⟩)] (by rfl) rfl rfl (by rfl) (by simp only [List.map_toArray, List.map_cons, List.map_nil]; rfl) rfl ?_
          refine (turnedV_calls C (foldm (tval f) (foldm f s0 sup).1 (ps.take j)).1 x.f0 x.f1 x.f2 (w.heap.size + 1) _ ((blk_cell T0.bt 0).trans rfl) (Nat.le_trans hbase T0.size) (HQ2.out x (List.mem_of_getElem? HX.out)) T0.st).mono ?_
          rintro e w6 ⟨rfl, hS, hgr⟩
          refine ⟨_, rfl, ?_⟩
          have T1 := T0.cb KT hgr hS
          have B1 := blk_grown B0 hgr (fun e => by have := KT.row_lt _ e.symm; have := hT.size; show False; omega)
          clear hS hgr
          refine hK.out _ _ ⟨(blk_cell T1.bo 3).trans rfl, (blk_cell B1 0).trans rfl, (blk_cell B1 1).trans rfl, (blk_cell B1 2).trans rfl⟩ (fun hHeld => ?_)
          clear hK K
          refine norm_ (a' := ?_) ?_ ?_
          rotate_left
          · show Act.put _ (some 52) _ = _
            simp only [Act.put, List.setIfInBounds_toArray, List.set_cons_zero, List.set_cons_succ, i64_w, i32_w]
            rfl
          refine one_ (i := 6) (N := some 53) #[true, true, true, true, true, true, true, false, false, false, false] rfl rfl (by kernel_rfl) (by decide) (fun K hK => ?_)
          refine value_ (w1 := ?_) (v := ?_) (by rfl) rfl ?_ ?_
          rotate_left 2
          · go_simp
            constructor
            · rfl
            · rfl
          refine hK.out _ _ ⟨(blk_cell (T1.alloc KT _).bo 3).trans rfl, (blk_cell (blk_alloc B1 _) 0).trans rfl, (blk_cell (blk_alloc B1 _) 1).trans rfl, (blk_cell (blk_alloc B1 _) 2).trans rfl⟩ (fun hHeld => ?_)
          clear hK K
          refine norm_ (a' := ?_) ?_ ?_
          rotate_left
          · show Act.put _ (some 53) _ = _
            simp only [Act.put, List.setIfInBounds_toArray, List.set_cons_zero, List.set_cons_succ, i64_w, i32_w]
            rfl
          refine one_ (i := 7) (N := some 54) #[true, true, true, true, true, true, true, true, false, false, false] rfl rfl (by kernel_rfl) (by decide) (fun K hK => ?_)
          refine Kd.R_append_step k39 (w0 := w6) w.heap.size (by rfl) (.tmp 49) (.tmp 53) 27 39 (.agg #[.int .i64 0, .bool false, .int .i64 0]) 24 rfl Tryz.underlying27 info39 rfl (by decide) (by omega) v2 _ (tval f (foldm (tval f) (foldm f s0 sup).1 (ps.take j)).1 x).2 [.int .i64 (tval f (foldm (tval f) (foldm f s0 sup).1 (ps.take j)).1 x).2.f0, .bool (tval f (foldm (tval f) (foldm f s0 sup).1 (ps.take j)).1 x).2.f1, .int .i64 (tval f (foldm (tval f) (foldm f s0 sup).1 (ps.take j)).1 x).2.f2] (fun k => True ∧ some k ≠ (Value.slice none 0 0).ownBlock) (fun _ => False) rfl rfl (k39_mkM _ _ _ _) (fun _ hk => hk.elim) (fun k_ hk_ => ⟨trivial, by simp [Value.ownBlock]⟩) T1.r2 (Below.refl _ _) T1.size (by rw [foldm_length, List.length_take]; omega) ?_
          intro v5 w7 ho _ hg hat
          obtain ⟨l5, hl5⟩ : ∃ l_ : List S39, l_ = (foldm (tval f) (foldm f s0 sup).1 (ps.take j)).2 ++ [(tval f (foldm (tval f) (foldm f s0 sup).1 (ps.take j)).1 x).2] := ⟨_, rfl⟩
          rw [← hl5] at ho
          have HL5 := Aside0.mk hl5
          clear hl5
          obtain ⟨bs, bt, bo, br⟩ := T1.blocks T1.r2 (by decide) (by decide) hg
          have T3 := T1.put2 KT ho hg hat
          have B3 := blk_grown B1 hg HV.out
          obtain ⟨A5, c5, e5⟩ := Kd.R_slice ho
          subst e5
          refine hK.out _ _ ⟨(blk_cell bo 3).trans rfl, (blk_cell B3 0).trans rfl, (blk_cell B3 1).trans rfl, (blk_cell B3 2).trans rfl⟩ (fun hHeld => ?_)
          clear hK K
          refine norm_ (a' := ?_) ?_ ?_
          rotate_left
          · show Act.put _ (some 54) _ = _
            simp only [Act.put, List.setIfInBounds_toArray, List.set_cons_zero, List.set_cons_succ, i64_w, i32_w]
            rfl
          refine pure_ (i := 8) (N := some 55) (v := ?_) (a' := ?_) #[true, true, true, true, true, true, true, true, true, false, false] rfl rfl (by kernel_rfl) (fun _ _ _ h => h) (Or.inl ⟨by rfl, ?_⟩) ?_ ?_
          rotate_left
          · intro w'
            go_simp
            with_reducible rfl
          rotate_left
          · simp only [Act.put, List.setIfInBounds_toArray, List.set_cons_zero, List.set_cons_succ, i64_w, i32_w]
            rfl
          refine pure_ (i := 9) (N := some 56) (v := ?_) (a' := ?_) #[true, true, true, true, true, true, true, true, true, true, false] rfl rfl (by kernel_rfl) (fun _ _ _ h => h) (Or.inl ⟨by rfl, ?_⟩) ?_ ?_
          rotate_left
          · intro w'
            go_simp
            with_reducible rfl
          rotate_left
          · simp only [Act.put, List.setIfInBounds_toArray, List.set_cons_zero, List.set_cons_succ, i64_w, i32_w]
            rfl
          refine last_ (i := 10) (N := none) #[true, true, true, true, true, true, true, true, true, true, true] rfl rfl (by kernel_rfl) (by decide) (fun K hK => ?_)
          have hs_ : w7.cell? ⟨w.heap.size + 1 + 1 + 1, 3, none⟩ = some v2 := (blk_cell bo 3).trans rfl
          have hfs_ : w7.frozen? ⟨w.heap.size + 1 + 1 + 1, 3, none⟩ = false := blk_frozen bo 3
          refine skip_ (w1 := ?_) (by rfl) rfl ?_ ?_
          rotate_left
          · go_simp
            rfl
          refine hK.out _ _ ?_
          clear hK K
          refine done_ (by kernel_rfl) ?_

          go_wp2_with fail
          go_roundw
          case rel => exact ⟨j + 1, _, by go_num, by omega, by have e := foldm_take (tval f) (foldm f s0 sup).1 ps j x HX.out; rw [e]; dsimp only; rw [← HL5.out]; exact T3⟩
          case measure => simp [intOf]; omega
        · obtain rfl : j = ps.length := by omega
          rw [List.take_length] at hT
          have cn : wr.cell? ⟨w.heap.size, 4, none⟩ = some (.slice A3 rs.length c3) := (blk_cell hT.bs 4).trans rfl
          clear hj hlt
          have TS := hT
          clear hT
          go_wp2_with fail
          go_loopw [62] (fun i W => ∃ (j : Nat) (v3 : Value), i = .int .i64 j ∧ j ≤ rs.length ∧ T (mkTX row St (.func (.func k) #[] cap) win w fin kind A1 c1 sup A2 c2 ps A3 c3 rs A4 c4 fs) v1 v2 v3 (.slice none 0 0) (foldm (tval f) (foldm (tval f) (foldm f s0 sup).1 ps).1 (rs.take j)).1 (foldm f s0 sup).2 (foldm (tval f) (foldm f s0 sup).1 ps).2 (foldm (tval f) (foldm (tval f) (foldm f s0 sup).1 ps).1 (rs.take j)).2 [] W) (fun i _ => rs.length - (intOf i).toNat)
          case atStart => exact ⟨0, _, rfl, Nat.zero_le _, TS⟩
          case round =>
            clear TS
            obtain ⟨j, v3, rfl, hj, hT⟩ := hrel
            by_cases hlt : j < rs.length
            · obtain ⟨ad, x, rfl, hx, hd0, hd1, hd2⟩ := at_VT' HR3.out j hlt
              have hc0 : wr.cell? (ad.add (j * 3)) = some (.int .i64 x.f0) := (hT.bin.cell (World.block_lt_of_cell? win _ hd0)).trans hd0
              have hc1 : wr.cell? ⟨(ad.add (j * 3)).block, (ad.add (j * 3)).off + 1, none⟩ = some (.bool x.f1) := (hT.bin.cell (World.block_lt_of_cell? win _ hd1)).trans hd1
              have hc2 : wr.cell? ⟨(ad.add (j * 3)).block, (ad.add (j * 3)).off + 2, none⟩ = some (.int .i64 x.f2) := (hT.bin.cell (World.block_lt_of_cell? win _ hd2)).trans hd2
              clear hd0 hd1 hd2
              have HX := Aside0.mk hx
              clear hx
              have T0 := (hT.alloc KT (.cells #[.int .i64 x.f0, .bool x.f1, .int .i64 x.f2] 39)).drew KT
              have B0 : (wr.alloc (.cells #[.int .i64 x.f0, .bool x.f1, .int .i64 x.f2] 39)).drew.heap[wr.heap.size]? = some (.cells #[.int .i64 x.f0, .bool x.f1, .int .i64 x.f2] 39 (0, 0)) := blk_new wr _
              have HV : Aside0 (some wr.heap.size ≠ v3.ownBlock) := ⟨fun e => by obtain ⟨_, in_, ho_, _⟩ := hT.r3; have := own_lt ho_ _ e.symm; omega⟩
              go_wp2_with fail
              refine start_ (n := 11) (S := fun w' => w'.cell? ⟨w.heap.size + 1 + 1 + 1, 4, none⟩ = some v3 ∧ w'.cell? ⟨wr.heap.size, 0, none⟩ = some (.int .i64 x.f0) ∧ w'.cell? ⟨wr.heap.size, 1, none⟩ = some (.bool x.f1) ∧ w'.cell? ⟨wr.heap.size, 2, none⟩ = some (.int .i64 x.f2)) (ds := [10]) #[false, false, false, false, false, false, false, false, false, false, false] (by kernel_rfl) rfl rfl ⟨(blk_cell T0.bo 4).trans rfl, (blk_cell B0 0).trans rfl, (blk_cell B0 1).trans rfl, (blk_cell B0 2).trans rfl⟩ (fun hHeld => ?_)
              generalize World.drew _ = w5 at T0 B0 hHeld ⊢
              refine pure_ (i := 0) (N := some 66) (v := ?_) (a' := ?_) #[true, false, false, false, false, false, false, false, false, false, false] rfl rfl (by kernel_rfl) (fun _ _ _ h => h) (Or.inl ⟨by rfl, ?_⟩) ?_ ?_
              rotate_left
              · intro w'
                go_simp
                with_reducible rfl
              rotate_left
              · simp only [Act.put, List.setIfInBounds_toArray, List.set_cons_zero, List.set_cons_succ, i64_w, i32_w]
                rfl
              refine pure_ (i := 1) (N := some 67) (v := ?_) (a' := ?_) #[true, true, false, false, false, false, false, false, false, false, false] rfl rfl (by kernel_rfl) (fun _ _ _ h => h) (Or.inl ⟨by rfl, ?_⟩) ?_ ?_
              rotate_left
              · intro w'
                go_simp
                with_reducible rfl
              rotate_left
              · simp only [Act.put, List.setIfInBounds_toArray, List.set_cons_zero, List.set_cons_succ, i64_w, i32_w]
                rfl
              refine pure_ (i := 3) (N := some 69) (v := ?_) (a' := ?_) #[true, true, false, true, false, false, false, false, false, false, false] rfl rfl (by kernel_rfl) (fun _ _ _ h => h) (Or.inl ⟨by rfl, ?_⟩) ?_ ?_
              rotate_left
              · intro w'
                go_simp
                with_reducible rfl
              rotate_left
              · simp only [Act.put, List.setIfInBounds_toArray, List.set_cons_zero, List.set_cons_succ, i64_w, i32_w]
                rfl
              refine take_ (i := 2) (N := some 68) (v := ?_) (a' := ?_) #[true, true, true, true, false, false, false, false, false, false, false] rfl rfl (by kernel_rfl) (fun _ _ _ h => h) (Or.inl ⟨by rfl, ?_⟩) hHeld ?_ ?_
              rotate_left
              · rintro w' ⟨s0, s1, s2, s3⟩
                go_simp
                with_reducible rfl
              rotate_left
              · simp only [Act.put, List.setIfInBounds_toArray, List.set_cons_zero, List.set_cons_succ, i64_w, i32_w]
                rfl
              refine take_ (i := 4) (N := some 70) (v := ?_) (a' := ?_) #[true, true, true, true, true, false, false, false, false, false, false] rfl rfl (by kernel_rfl) (fun _ _ _ h => h) (Or.inl ⟨by rfl, ?_⟩) hHeld ?_ ?_
              rotate_left
              · rintro w' ⟨s0, s1, s2, s3⟩
                go_simp
                with_reducible rfl
              rotate_left
              · simp only [Act.put, List.setIfInBounds_toArray, List.set_cons_zero, List.set_cons_succ, i64_w, i32_w]
                rfl
              refine one_ (i := 5) (N := some 71) #[true, true, true, true, true, true, false, false, false, false, false] rfl rfl (by kernel_rfl) (by decide) (fun K hK => ?_)
              refine goesF_ (fun args_ w_ => enters_ Tryz.func136 (by kernel_rfl) rfl args_ w_) #[.agg #[.int .i64 x.f0, .bool x.f1, .int .i64 x.f2]] #[.agg #[.int .i64 x.f0, .bool x.f1, .int .i64 x.f2], .pointer (some ⟨w.heap.size + 1, 0, none⟩)] (by rfl) rfl rfl (by rfl) (by simp only [List.map_toArray, List.map_cons, List.map_nil]; rfl) rfl ?_
              refine (turnedV_calls C (foldm (tval f) (foldm (tval f) (foldm f s0 sup).1 ps).1 (rs.take j)).1 x.f0 x.f1 x.f2 (w.heap.size + 1) _ ((blk_cell T0.bt 0).trans rfl) (Nat.le_trans hbase T0.size) (HQ3.out x (List.mem_of_getElem? HX.out)) T0.st).mono ?_
              rintro e w6 ⟨rfl, hS, hgr⟩
              refine ⟨_, rfl, ?_⟩
              have T1 := T0.cb KT hgr hS
              have B1 := blk_grown B0 hgr (fun e => by have := KT.row_lt _ e.symm; have := hT.size; show False; omega)
              clear hS hgr
              refine hK.out _ _ ⟨(blk_cell T1.bo 4).trans rfl, (blk_cell B1 0).trans rfl, (blk_cell B1 1).trans rfl, (blk_cell B1 2).trans rfl⟩ (fun hHeld => ?_)
              clear hK K
              refine norm_ (a' := ?_) ?_ ?_
              rotate_left
              · show Act.put _ (some 71) _ = _
                simp only [Act.put, List.setIfInBounds_toArray, List.set_cons_zero, List.set_cons_succ, i64_w, i32_w]
                rfl
              refine one_ (i := 6) (N := some 72) #[true, true, true, true, true, true, true, false, false, false, false] rfl rfl (by kernel_rfl) (by decide) (fun K hK => ?_)
              refine value_ (w1 := ?_) (v := ?_) (by rfl) rfl ?_ ?_
              rotate_left 2
              · go_simp
                constructor
                · rfl
                · rfl
              refine hK.out _ _ ⟨(blk_cell (T1.alloc KT _).bo 4).trans rfl, (blk_cell (blk_alloc B1 _) 0).trans rfl, (blk_cell (blk_alloc B1 _) 1).trans rfl, (blk_cell (blk_alloc B1 _) 2).trans rfl⟩ (fun hHeld => ?_)
              clear hK K
              refine norm_ (a' := ?_) ?_ ?_
              rotate_left
              · show Act.put _ (some 72) _ = _
                simp only [Act.put, List.setIfInBounds_toArray, List.set_cons_zero, List.set_cons_succ, i64_w, i32_w]
                rfl
              refine one_ (i := 7) (N := some 73) #[true, true, true, true, true, true, true, true, false, false, false] rfl rfl (by kernel_rfl) (by decide) (fun K hK => ?_)
              refine Kd.R_append_step k39 (w0 := w6) w.heap.size (by rfl) (.tmp 68) (.tmp 72) 27 39 (.agg #[.int .i64 0, .bool false, .int .i64 0]) 24 rfl Tryz.underlying27 info39 rfl (by decide) (by omega) v3 _ (tval f (foldm (tval f) (foldm (tval f) (foldm f s0 sup).1 ps).1 (rs.take j)).1 x).2 [.int .i64 (tval f (foldm (tval f) (foldm (tval f) (foldm f s0 sup).1 ps).1 (rs.take j)).1 x).2.f0, .bool (tval f (foldm (tval f) (foldm (tval f) (foldm f s0 sup).1 ps).1 (rs.take j)).1 x).2.f1, .int .i64 (tval f (foldm (tval f) (foldm (tval f) (foldm f s0 sup).1 ps).1 (rs.take j)).1 x).2.f2] (fun k => True ∧ some k ≠ v2.ownBlock) (fun _ => False) rfl rfl (k39_mkM _ _ _ _) (fun _ hk => hk.elim) (fun k_ hk_ => ⟨trivial, fun e => by obtain ⟨_, in_, ho_, _⟩ := T1.r2; have := own_lt ho_ k_ e.symm; omega⟩) T1.r3 (Below.refl _ _) T1.size (by rw [foldm_length, List.length_take]; omega) ?_
              intro v5 w7 ho _ hg hat
              obtain ⟨l5, hl5⟩ : ∃ l_ : List S39, l_ = (foldm (tval f) (foldm (tval f) (foldm f s0 sup).1 ps).1 (rs.take j)).2 ++ [(tval f (foldm (tval f) (foldm (tval f) (foldm f s0 sup).1 ps).1 (rs.take j)).1 x).2] := ⟨_, rfl⟩
              rw [← hl5] at ho
              have HL5 := Aside0.mk hl5
              clear hl5
              obtain ⟨bs, bt, bo, br⟩ := T1.blocks T1.r3 (by decide) (by decide) hg
              have T3 := T1.put3 KT ho hg hat
              have B3 := blk_grown B1 hg HV.out
              obtain ⟨A5, c5, e5⟩ := Kd.R_slice ho
              subst e5
              refine hK.out _ _ ⟨(blk_cell bo 4).trans rfl, (blk_cell B3 0).trans rfl, (blk_cell B3 1).trans rfl, (blk_cell B3 2).trans rfl⟩ (fun hHeld => ?_)
              clear hK K
              refine norm_ (a' := ?_) ?_ ?_
              rotate_left
              · show Act.put _ (some 73) _ = _
                simp only [Act.put, List.setIfInBounds_toArray, List.set_cons_zero, List.set_cons_succ, i64_w, i32_w]
                rfl
              refine pure_ (i := 8) (N := some 74) (v := ?_) (a' := ?_) #[true, true, true, true, true, true, true, true, true, false, false] rfl rfl (by kernel_rfl) (fun _ _ _ h => h) (Or.inl ⟨by rfl, ?_⟩) ?_ ?_
              rotate_left
              · intro w'
                go_simp
                with_reducible rfl
              rotate_left
              · simp only [Act.put, List.setIfInBounds_toArray, List.set_cons_zero, List.set_cons_succ, i64_w, i32_w]
                rfl
              refine pure_ (i := 9) (N := some 75) (v := ?_) (a' := ?_) #[true, true, true, true, true, true, true, true, true, true, false] rfl rfl (by kernel_rfl) (fun _ _ _ h => h) (Or.inl ⟨by rfl, ?_⟩) ?_ ?_
              rotate_left
              · intro w'
                go_simp
                with_reducible rfl
              rotate_left
              · simp only [Act.put, List.setIfInBounds_toArray, List.set_cons_zero, List.set_cons_succ, i64_w, i32_w]
                rfl
              refine last_ (i := 10) (N := none) #[true, true, true, true, true, true, true, true, true, true, true] rfl rfl (by kernel_rfl) (by decide) (fun K hK => ?_)
              have hs_ : w7.cell? ⟨w.heap.size + 1 + 1 + 1, 4, none⟩ = some v3 := (blk_cell bo 4).trans rfl
              have hfs_ : w7.frozen? ⟨w.heap.size + 1 + 1 + 1, 4, none⟩ = false := blk_frozen bo 4
              refine skip_ (w1 := ?_) (by rfl) rfl ?_ ?_
              rotate_left
              · go_simp
                rfl
              refine hK.out _ _ ?_
              clear hK K
              refine done_ (by kernel_rfl) ?_

              go_wp2_with fail
              go_roundw
              case rel => exact ⟨j + 1, _, by go_num, by omega, by have e := foldm_take (tval f) (foldm (tval f) (foldm f s0 sup).1 ps).1 rs j x HX.out; rw [e]; dsimp only; rw [← HL5.out]; exact T3⟩
              case measure => simp [intOf]; omega
            · obtain rfl : j = rs.length := by omega
              rw [List.take_length] at hT
              have cn : wr.cell? ⟨w.heap.size, 5, none⟩ = some (.slice A4 fs.length c4) := (blk_cell hT.bs 5).trans rfl
              clear hj hlt
              have TS := hT
              clear hT
              go_wp2_with fail
              go_loopw [81] (fun i W => ∃ (j : Nat) (v4 : Value), i = .int .i64 j ∧ j ≤ fs.length ∧ T (mkTX row St (.func (.func k) #[] cap) win w fin kind A1 c1 sup A2 c2 ps A3 c3 rs A4 c4 fs) v1 v2 v3 v4 (foldm (tfield f) (foldm (tval f) (foldm (tval f) (foldm f s0 sup).1 ps).1 rs).1 (fs.take j)).1 (foldm f s0 sup).2 (foldm (tval f) (foldm f s0 sup).1 ps).2 (foldm (tval f) (foldm (tval f) (foldm f s0 sup).1 ps).1 rs).2 (foldm (tfield f) (foldm (tval f) (foldm (tval f) (foldm f s0 sup).1 ps).1 rs).1 (fs.take j)).2 W) (fun i _ => fs.length - (intOf i).toNat)
              case atStart => exact ⟨0, _, rfl, Nat.zero_le _, TS⟩
              case round =>
                clear TS
                obtain ⟨j, v4, rfl, hj, hT⟩ := hrel
                by_cases hlt : j < fs.length
                · obtain ⟨ad, x, rfl, hx, hd0, hd1, hd2, hd3⟩ := at_FT' HR4.out j hlt
                  have hc0 : wr.cell? (ad.add (j * 4)) = some (.int .i64 x.f0.f0) := (hT.bin.cell (World.block_lt_of_cell? win _ hd0)).trans hd0
                  have hc1 : wr.cell? ⟨(ad.add (j * 4)).block, (ad.add (j * 4)).off + 1, none⟩ = some (.bool x.f0.f1) := (hT.bin.cell (World.block_lt_of_cell? win _ hd1)).trans hd1
                  have hc2 : wr.cell? ⟨(ad.add (j * 4)).block, (ad.add (j * 4)).off + 2, none⟩ = some (.int .i64 x.f0.f2) := (hT.bin.cell (World.block_lt_of_cell? win _ hd2)).trans hd2
                  have hc3 : wr.cell? ⟨(ad.add (j * 4)).block, (ad.add (j * 4)).off + 3, none⟩ = some (.bool x.f1) := (hT.bin.cell (World.block_lt_of_cell? win _ hd3)).trans hd3
                  clear hd0 hd1 hd2 hd3
                  have HX := Aside0.mk hx
                  clear hx
                  have T0 := (hT.alloc KT (.cells #[.int .i64 x.f0.f0, .bool x.f0.f1, .int .i64 x.f0.f2, .bool x.f1] 172)).drew KT
                  have B0 : (wr.alloc (.cells #[.int .i64 x.f0.f0, .bool x.f0.f1, .int .i64 x.f0.f2, .bool x.f1] 172)).drew.heap[wr.heap.size]? = some (.cells #[.int .i64 x.f0.f0, .bool x.f0.f1, .int .i64 x.f0.f2, .bool x.f1] 172 (0, 0)) := blk_new wr _
                  have HV : Aside0 (some wr.heap.size ≠ v4.ownBlock) := ⟨fun e => by obtain ⟨_, in_, ho_, _⟩ := hT.r4; have := own_lt ho_ _ e.symm; omega⟩
                  go_wp2_with fail
                  refine start_ (n := 15) (S := fun w' => w'.cell? ⟨w.heap.size + 1 + 1 + 1, 5, none⟩ = some v4 ∧ w'.cell? ⟨wr.heap.size, 0, none⟩ = some (.int .i64 x.f0.f0) ∧ w'.cell? ⟨wr.heap.size, 1, none⟩ = some (.bool x.f0.f1) ∧ w'.cell? ⟨wr.heap.size, 2, none⟩ = some (.int .i64 x.f0.f2) ∧ w'.cell? ⟨wr.heap.size, 3, none⟩ = some (.bool x.f1)) (ds := [14]) #[false, false, false, false, false, false, false, false, false, false, false, false, false, false, false] (by kernel_rfl) rfl rfl ⟨(blk_cell T0.bo 5).trans rfl, (blk_cell B0 0).trans rfl, (blk_cell B0 1).trans rfl, (blk_cell B0 2).trans rfl, (blk_cell B0 3).trans rfl⟩ (fun hHeld => ?_)
                  generalize World.drew _ = w5 at T0 B0 hHeld ⊢
                  refine pure_ (i := 0) (N := some 85) (v := ?_) (a' := ?_) #[true, false, false, false, false, false, false, false, false, false, false, false, false, false, false] rfl rfl (by kernel_rfl) (fun _ _ _ h => h) (Or.inl ⟨by rfl, ?_⟩) ?_ ?_
                  rotate_left
                  · intro w'
                    go_simp
                    with_reducible rfl
                  rotate_left
                  · simp only [Act.put, List.setIfInBounds_toArray, List.set_cons_zero, List.set_cons_succ, i64_w, i32_w]
                    rfl
                  refine pure_ (i := 1) (N := some 86) (v := ?_) (a' := ?_) #[true, true, false, false, false, false, false, false, false, false, false, false, false, false, false] rfl rfl (by kernel_rfl) (fun _ _ _ h => h) (Or.inl ⟨by rfl, ?_⟩) ?_ ?_
                  rotate_left
                  · intro w'
                    go_simp
                    with_reducible rfl
                  rotate_left
                  · simp only [Act.put, List.setIfInBounds_toArray, List.set_cons_zero, List.set_cons_succ, i64_w, i32_w]
                    rfl
                  refine pure_ (i := 3) (N := some 88) (v := ?_) (a' := ?_) #[true, true, false, true, false, false, false, false, false, false, false, false, false, false, false] rfl rfl (by kernel_rfl) (fun _ _ _ h => h) (Or.inl ⟨by rfl, ?_⟩) ?_ ?_
                  rotate_left
                  · intro w'
                    go_simp
                    with_reducible rfl
                  rotate_left
                  · simp only [Act.put, List.setIfInBounds_toArray, List.set_cons_zero, List.set_cons_succ, i64_w, i32_w]
                    rfl
                  refine pure_ (i := 4) (N := some 89) (v := ?_) (a' := ?_) #[true, true, false, true, true, false, false, false, false, false, false, false, false, false, false] rfl rfl (by kernel_rfl) (fun _ _ _ h => h) (Or.inl ⟨by rfl, ?_⟩) ?_ ?_
                  rotate_left
                  · intro w'
                    go_simp
                    with_reducible rfl
                  rotate_left
                  · simp only [Act.put, List.setIfInBounds_toArray, List.set_cons_zero, List.set_cons_succ, i64_w, i32_w]
                    rfl
                  refine pure_ (i := 7) (N := some 92) (v := ?_) (a' := ?_) #[true, true, false, true, true, false, false, true, false, false, false, false, false, false, false] rfl rfl (by kernel_rfl) (fun _ _ _ h => h) (Or.inl ⟨by rfl, ?_⟩) ?_ ?_
                  rotate_left
                  · intro w'
                    go_simp
                    with_reducible rfl
                  rotate_left
                  · simp only [Act.put, List.setIfInBounds_toArray, List.set_cons_zero, List.set_cons_succ, i64_w, i32_w]
                    rfl
                  refine take_ (i := 2) (N := some 87) (v := ?_) (a' := ?_) #[true, true, true, true, true, false, false, true, false, false, false, false, false, false, false] rfl rfl (by kernel_rfl) (fun _ _ _ h => h) (Or.inl ⟨by rfl, ?_⟩) hHeld ?_ ?_
                  rotate_left
                  · rintro w' ⟨s0, s1, s2, s3, s4⟩
                    go_simp
                    with_reducible rfl
                  rotate_left
                  · simp only [Act.put, List.setIfInBounds_toArray, List.set_cons_zero, List.set_cons_succ, i64_w, i32_w]
                    rfl
                  refine take_ (i := 5) (N := some 90) (v := ?_) (a' := ?_) #[true, true, true, true, true, true, false, true, false, false, false, false, false, false, false] rfl rfl (by kernel_rfl) (fun _ _ _ h => h) (Or.inl ⟨by rfl, ?_⟩) hHeld ?_ ?_
                  rotate_left
                  · rintro w' ⟨s0, s1, s2, s3, s4⟩
                    go_simp
                    with_reducible rfl
                  rotate_left
                  · simp only [Act.put, List.setIfInBounds_toArray, List.set_cons_zero, List.set_cons_succ, i64_w, i32_w]
                    rfl
                  refine take_ (i := 8) (N := some 93) (v := ?_) (a' := ?_) #[true, true, true, true, true, true, false, true, true, false, false, false, false, false, false] rfl rfl (by kernel_rfl) (fun _ _ _ h => h) (Or.inl ⟨by rfl, ?_⟩) hHeld ?_ ?_
                  rotate_left
                  · rintro w' ⟨s0, s1, s2, s3, s4⟩
                    go_simp
                    with_reducible rfl
                  rotate_left
                  · simp only [Act.put, List.setIfInBounds_toArray, List.set_cons_zero, List.set_cons_succ, i64_w, i32_w]
                    rfl
                  refine one_ (i := 6) (N := some 91) #[true, true, true, true, true, true, true, true, true, false, false, false, false, false, false] rfl rfl (by kernel_rfl) (by decide) (fun K hK => ?_)
                  refine goesF_ (fun args_ w_ => enters_ Tryz.func136 (by kernel_rfl) rfl args_ w_) #[.agg #[.int .i64 x.f0.f0, .bool x.f0.f1, .int .i64 x.f0.f2]] #[.agg #[.int .i64 x.f0.f0, .bool x.f0.f1, .int .i64 x.f0.f2], .pointer (some ⟨w.heap.size + 1, 0, none⟩)] (by rfl) rfl rfl (by rfl) (by simp only [List.map_toArray, List.map_cons, List.map_nil]; rfl) rfl ?_
                  refine (turnedV_calls C (foldm (tfield f) (foldm (tval f) (foldm (tval f) (foldm f s0 sup).1 ps).1 rs).1 (fs.take j)).1 x.f0.f0 x.f0.f1 x.f0.f2 (w.heap.size + 1) _ ((blk_cell T0.bt 0).trans rfl) (Nat.le_trans hbase T0.size) (HQ4.out x (List.mem_of_getElem? HX.out)) T0.st).mono ?_
                  rintro e w6 ⟨rfl, hS, hgr⟩
                  refine ⟨_, rfl, ?_⟩
                  have T1 := T0.cb KT hgr hS
                  have B1 := blk_grown B0 hgr (fun e => by have := KT.row_lt _ e.symm; have := hT.size; show False; omega)
                  clear hS hgr
                  refine hK.out _ _ ⟨(blk_cell T1.bo 5).trans rfl, (blk_cell B1 0).trans rfl, (blk_cell B1 1).trans rfl, (blk_cell B1 2).trans rfl, (blk_cell B1 3).trans rfl⟩ (fun hHeld => ?_)
                  clear hK K
                  refine norm_ (a' := ?_) ?_ ?_
                  rotate_left
                  · show Act.put _ (some 91) _ = _
                    simp only [Act.put, List.setIfInBounds_toArray, List.set_cons_zero, List.set_cons_succ, i64_w, i32_w]
                    rfl
                  refine pure_ (i := 9) (N := some 94) (v := ?_) (a' := ?_) #[true, true, true, true, true, true, true, true, true, true, false, false, false, false, false] rfl rfl (by kernel_rfl) (fun _ _ _ h => h) (Or.inl ⟨by rfl, ?_⟩) ?_ ?_
                  rotate_left
                  · intro w'
                    go_simp
                    with_reducible rfl
                  rotate_left
                  · simp only [Act.put, List.setIfInBounds_toArray, List.set_cons_zero, List.set_cons_succ, i64_w, i32_w]
                    rfl
                  refine one_ (i := 10) (N := some 95) #[true, true, true, true, true, true, true, true, true, true, true, false, false, false, false] rfl rfl (by kernel_rfl) (by decide) (fun K hK => ?_)
                  refine value_ (w1 := ?_) (v := ?_) (by rfl) rfl ?_ ?_
                  rotate_left 2
                  · go_simp
                    constructor
                    · rfl
                    · rfl
                  refine hK.out _ _ ⟨(blk_cell (T1.alloc KT _).bo 5).trans rfl, (blk_cell (blk_alloc B1 _) 0).trans rfl, (blk_cell (blk_alloc B1 _) 1).trans rfl, (blk_cell (blk_alloc B1 _) 2).trans rfl, (blk_cell (blk_alloc B1 _) 3).trans rfl⟩ (fun hHeld => ?_)
                  clear hK K
                  refine norm_ (a' := ?_) ?_ ?_
                  rotate_left
                  · show Act.put _ (some 95) _ = _
                    simp only [Act.put, List.setIfInBounds_toArray, List.set_cons_zero, List.set_cons_succ, i64_w, i32_w]
                    rfl
                  refine one_ (i := 11) (N := some 96) #[true, true, true, true, true, true, true, true, true, true, true, true, false, false, false] rfl rfl (by kernel_rfl) (by decide) (fun K hK => ?_)
                  refine Kd.R_append_step k172 (w0 := w6) w.heap.size (by rfl) (.tmp 87) (.tmp 95) 119 172 (.agg #[.int .i64 0, .bool false, .int .i64 0, .bool false]) 32 rfl Tryz.underlying119 info172 rfl (by decide) (by omega) v4 _ (tfield f (foldm (tfield f) (foldm (tval f) (foldm (tval f) (foldm f s0 sup).1 ps).1 rs).1 (fs.take j)).1 x).2 [.int .i64 (tval f (foldm (tfield f) (foldm (tval f) (foldm (tval f) (foldm f s0 sup).1 ps).1 rs).1 (fs.take j)).1 x.f0).2.f0, .bool (tval f (foldm (tfield f) (foldm (tval f) (foldm (tval f) (foldm f s0 sup).1 ps).1 rs).1 (fs.take j)).1 x.f0).2.f1, .int .i64 (tval f (foldm (tfield f) (foldm (tval f) (foldm (tval f) (foldm f s0 sup).1 ps).1 rs).1 (fs.take j)).1 x.f0).2.f2, .bool x.f1] (fun _ => True) (fun _ => False) rfl rfl (k172_mkM _ _ _ _) (fun _ hk => hk.elim) (fun _ _ => trivial) T1.r4 (Below.refl _ _) T1.size (by rw [foldm_length, List.length_take]; omega) ?_
                  intro v5 w7 ho _ hg hat
                  obtain ⟨l5, hl5⟩ : ∃ l_ : List S172, l_ = (foldm (tfield f) (foldm (tval f) (foldm (tval f) (foldm f s0 sup).1 ps).1 rs).1 (fs.take j)).2 ++ [(tfield f (foldm (tfield f) (foldm (tval f) (foldm (tval f) (foldm f s0 sup).1 ps).1 rs).1 (fs.take j)).1 x).2] := ⟨_, rfl⟩
                  rw [← hl5] at ho
                  have HL5 := Aside0.mk hl5
                  clear hl5
                  obtain ⟨bs, bt, bo, br⟩ := T1.blocks T1.r4 (by decide) (by decide) hg
                  have T3 := T1.put4 KT ho hg
                  have B3 := blk_grown B1 hg HV.out
                  obtain ⟨A5, c5, e5⟩ := Kd.R_slice ho
                  subst e5
                  refine hK.out _ _ ⟨(blk_cell bo 5).trans rfl, (blk_cell B3 0).trans rfl, (blk_cell B3 1).trans rfl, (blk_cell B3 2).trans rfl, (blk_cell B3 3).trans rfl⟩ (fun hHeld => ?_)
                  clear hK K
                  refine norm_ (a' := ?_) ?_ ?_
                  rotate_left
                  · show Act.put _ (some 96) _ = _
                    simp only [Act.put, List.setIfInBounds_toArray, List.set_cons_zero, List.set_cons_succ, i64_w, i32_w]
                    rfl
                  refine pure_ (i := 12) (N := some 97) (v := ?_) (a' := ?_) #[true, true, true, true, true, true, true, true, true, true, true, true, true, false, false] rfl rfl (by kernel_rfl) (fun _ _ _ h => h) (Or.inl ⟨by rfl, ?_⟩) ?_ ?_
                  rotate_left
                  · intro w'
                    go_simp
                    with_reducible rfl
                  rotate_left
                  · simp only [Act.put, List.setIfInBounds_toArray, List.set_cons_zero, List.set_cons_succ, i64_w, i32_w]
                    rfl
                  refine pure_ (i := 13) (N := some 98) (v := ?_) (a' := ?_) #[true, true, true, true, true, true, true, true, true, true, true, true, true, true, false] rfl rfl (by kernel_rfl) (fun _ _ _ h => h) (Or.inl ⟨by rfl, ?_⟩) ?_ ?_
                  rotate_left
                  · intro w'
                    go_simp
                    with_reducible rfl
                  rotate_left
                  · simp only [Act.put, List.setIfInBounds_toArray, List.set_cons_zero, List.set_cons_succ, i64_w, i32_w]
                    rfl
                  refine last_ (i := 14) (N := none) #[true, true, true, true, true, true, true, true, true, true, true, true, true, true, true] rfl rfl (by kernel_rfl) (by decide) (fun K hK => ?_)
                  have hs_ : w7.cell? ⟨w.heap.size + 1 + 1 + 1, 5, none⟩ = some v4 := (blk_cell bo 5).trans rfl
                  have hfs_ : w7.frozen? ⟨w.heap.size + 1 + 1 + 1, 5, none⟩ = false := blk_frozen bo 5
                  refine skip_ (w1 := ?_) (by rfl) rfl ?_ ?_
                  rotate_left
                  · go_simp
                    rfl
                  refine hK.out _ _ ?_
                  clear hK K
                  refine done_ (by kernel_rfl) ?_

                  go_wp2_with fail
                  go_roundw
                  case rel => exact ⟨j + 1, _, by go_num, by omega, by have e := foldm_take (tfield f) (foldm (tval f) (foldm (tval f) (foldm f s0 sup).1 ps).1 rs).1 fs j x HX.out; rw [e]; dsimp only; rw [← HL5.out]; exact T3⟩
                  case measure => simp [intOf]; omega
                · obtain rfl : j = fs.length := by omega
                  rw [List.take_length] at hT
                  have co0 : wr.cell? ⟨w.heap.size + 1 + 1 + 1, 0, none⟩ = some (.bool fin) := (blk_cell hT.bo 0).trans rfl
                  have co1 : wr.cell? ⟨w.heap.size + 1 + 1 + 1, 1, none⟩ = some (v1) := (blk_cell hT.bo 1).trans rfl
                  have co2 : wr.cell? ⟨w.heap.size + 1 + 1 + 1, 2, none⟩ = some (.int .i64 kind) := (blk_cell hT.bo 2).trans rfl
                  have co3 : wr.cell? ⟨w.heap.size + 1 + 1 + 1, 3, none⟩ = some (v2) := (blk_cell hT.bo 3).trans rfl
                  have co4 : wr.cell? ⟨w.heap.size + 1 + 1 + 1, 4, none⟩ = some (v3) := (blk_cell hT.bo 4).trans rfl
                  have co5 : wr.cell? ⟨w.heap.size + 1 + 1 + 1, 5, none⟩ = some (v4) := (blk_cell hT.bo 5).trans rfl
                  have cr0 : wr.cell? ⟨w.heap.size + 1 + 1, 0, none⟩ = some (.bool false) := (blk_cell hT.br 0).trans rfl
                  have fr0 : wr.frozen? ⟨w.heap.size + 1 + 1, 0, none⟩ = false := blk_frozen hT.br 0
                  have cr1 : wr.cell? ⟨w.heap.size + 1 + 1, 1, none⟩ = some (.slice none 0 0) := (blk_cell hT.br 1).trans rfl
                  have fr1 : wr.frozen? ⟨w.heap.size + 1 + 1, 1, none⟩ = false := blk_frozen hT.br 1
                  have cr2 : wr.cell? ⟨w.heap.size + 1 + 1, 2, none⟩ = some (.int .i64 0) := (blk_cell hT.br 2).trans rfl
                  have fr2 : wr.frozen? ⟨w.heap.size + 1 + 1, 2, none⟩ = false := blk_frozen hT.br 2
                  have cr3 : wr.cell? ⟨w.heap.size + 1 + 1, 3, none⟩ = some (.slice none 0 0) := (blk_cell hT.br 3).trans rfl
                  have fr3 : wr.frozen? ⟨w.heap.size + 1 + 1, 3, none⟩ = false := blk_frozen hT.br 3
                  have cr4 : wr.cell? ⟨w.heap.size + 1 + 1, 4, none⟩ = some (.slice none 0 0) := (blk_cell hT.br 4).trans rfl
                  have fr4 : wr.frozen? ⟨w.heap.size + 1 + 1, 4, none⟩ = false := blk_frozen hT.br 4
                  have cr5 : wr.cell? ⟨w.heap.size + 1 + 1, 5, none⟩ = some (.slice none 0 0) := (blk_cell hT.br 5).trans rfl
                  have fr5 : wr.frozen? ⟨w.heap.size + 1 + 1, 5, none⟩ = false := blk_frozen hT.br 5
                  obtain ⟨B1, d1, e1⟩ := Kd.R_slice hT.r1
                  subst e1
                  obtain ⟨B2, d2, e2⟩ := Kd.R_slice hT.r2
                  subst e2
                  obtain ⟨B3, d3, e3⟩ := Kd.R_slice hT.r3
                  subst e3
                  obtain ⟨B4, d4, e4⟩ := Kd.R_slice hT.r4
                  subst e4
                  clear hj hlt
                  have TS := hT
                  clear hT
                  go_wp2_with fail
                  refine bodyPost_ret (results_cell_row rfl _ _ (w.heap.size + 1 + 1) 123 #[.bool fin, (.slice B1 (foldm f s0 sup).2.length d1), .int .i64 kind, (.slice B2 (foldm (tval f) (foldm f s0 sup).1 ps).2.length d2), (.slice B3 (foldm (tval f) (foldm (tval f) (foldm f s0 sup).1 ps).1 rs).2.length d3), (.slice B4 (foldm (tfield f) (foldm (tval f) (foldm (tval f) (foldm f s0 sup).1 ps).1 rs).1 fs).2.length d4)] (0, 0) _ rfl (blk_set (blk_set (blk_set (blk_set (blk_set (blk_set TS.br 0 _) 1 _) 2 _) 3 _) 4 _) 5 _) Tryz.underlying123 rfl (by kernel_rfl)) rfl ?_
                  obtain ⟨e1, e2, e3, e4, e5, e6⟩ := T.ends TS KT (.bool fin) (.slice B1 (foldm f s0 sup).2.length d1) (.int .i64 kind) (.slice B2 (foldm (tval f) (foldm f s0 sup).1 ps).2.length d2) (.slice B3 (foldm (tval f) (foldm (tval f) (foldm f s0 sup).1 ps).1 rs).2.length d3) (.slice B4 (foldm (tfield f) (foldm (tval f) (foldm (tval f) (foldm f s0 sup).1 ps).1 rs).1 fs).2.length d4)
                  exact ⟨_, _, _, _, rfl, e1, e2, e3, e4, e5, e6.to_grown⟩
end Go.Proofs.YtohlmkcgempdlaaGreatDoor.Cn
namespace Go.Proofs.YtohlmkcgempdlaaGreatDoor.Cn
set_option linter.unusedSimpArgs false
set_option linter.unusedVariables false
open Go.RowKit Go.Maps Go.Proofs.YtohlmkcgempdlaaGreatDoorW.PrintWords Go.Proofs.YtohlmkcgempdlaaGreatDoorW.PrintLast Go.Proofs.YtohlmkcgempdlaaGreatDoorW.PrintMore Go.Proofs.YtohlmkcgempdlaaGreatDoor.QD
def NV64 (i : Int) : Prop := -9223372036854775808 ≤ i ∧ i ≤ 9223372036854775807
/-- How much a type, a group, a list of groups holds. -/
def vS (s : S123) : Nat := s.f1.length + s.f2.f1.length + s.f2.f2.length + s.f2.f3.length + 1
def vG (l : List S123) : Nat := (l.map vS).sum
def vL (l : List S132) : Nat := (l.map fun r => vG r.f0 + 1).sum
theorem v_sum_le {α : Type} (f : α → Nat) : ∀ (l : List α) (x : α), x ∈ l → f x ≤ (l.map f).sum
  | y :: l, x, h => by
    rcases List.mem_cons.1 h with rfl | h
    · simp
    · have := v_sum_le f l x h
      simp only [List.map_cons, List.sum_cons]; omega
theorem v_len_le {α : Type} (f : α → Nat) (hf : ∀ x, 1 ≤ f x) : ∀ l : List α, l.length ≤ (l.map f).sum
  | [] => by simp
  | y :: l => by
    have := v_len_le f hf l
    have := hf y
    simp only [List.map_cons, List.sum_cons, List.length_cons]; omega
theorem vS_pos (s : S123) : 1 ≤ vS s := by unfold vS; omega
/-- All types of a list. -/
def vcount (l : List S132) : Nat := (l.map fun r => r.f0.length).sum
theorem vcount_le (l : List S132) : vcount l + l.length ≤ vL l := by
  unfold vcount vL
  induction l with
  | nil => simp
  | cons r l ih =>
    have h := v_len_le vS vS_pos r.f0
    unfold vG
    simp only [List.map_cons, List.sum_cons, List.length_cons]
    unfold vG at ih
    omega
/-- A type by its number. -/
def atV : List S132 → Int → Option S123
  | [], _ => none
  | r :: l, n => if n < (r.f0.length : Int) then r.f0[n.toNat]? else atV l (n - r.f0.length)
def atN (l : List S132) (n : Int) : Option S123 := if n < 0 then none else atV l n
theorem rd_RT_at0 (l : List S132) (j : Nat) (h : j < l.length) : l[j]? = some (rd_T132 l (j : Int)) := by simp [rd_T132, List.getD_eq_getElem?_getD, List.getElem?_eq_getElem h]
theorem drop_at {α : Type} {l : List α} {j : Nat} {x : α} (h : l[j]? = some x) : l.drop j = x :: l.drop (j + 1) := by
  obtain ⟨hj, he⟩ := List.getElem?_eq_some_iff.1 h
  rw [← he, List.drop_eq_getElem_cons hj]
theorem below_of_grown {W W' : World} (hg : W.grownBy W' none) : Below W.heap.size W W' := ⟨hg.os, hg.tape, hg.output, hg.size, fun k hk => hg.block k hk (by simp)⟩
set_option maxRecDepth 100000 in
theorem tAtT_calls (h : Int) (w : World) : Calls Tryz.prog 109 (#[.int .i64 h] ++ #[]) w fun e w' => e = .returned (.int .i64 h) ∧ Below w.heap.size w w' := by
  go_enter Tryz.func109, Tryz.ntmps109
  go_wp2_with fail
  go_ret
  exact ⟨rfl, Below.refl _ _⟩
theorem idCb (wm : World) : Cb wm.heap.size none (fun _ => True) (fun (_ : Unit) w => Below wm.heap.size wm w) (fun s h => (s, h)) (.func (.func 109) #[] #[]) :=
  Cb.pure (f := fun h => h) (fun args w => enters_ Tryz.func109 (by kernel_rfl) rfl args w) (fun h w _ _ => tAtT_calls h w)
theorem foldm_id {α : Type} (g : Unit → α → Unit × α) (hg : ∀ s x, (g s x).2 = x) : ∀ (s : Unit) (l : List α), (foldm g s l).2 = l
  | s, [] => rfl
  | s, x :: l => by simp only [foldm, hg, foldm_id g hg]
theorem results_cell_t4 {P : Program} {fn : Func} {p u v x : Tmp} {ty : TypeId} (h : fn.results = #[.cell p ty, .tmp u, .tmp v, .tmp x]) (tmps : Array Value) (w : World) (g : Nat) (cs : Array Value)
    (hp : tmps.getD p undef = .pointer (some ⟨g, 0, none⟩)) (hl : (loadVar ty ⟨g, 0, none⟩).run P w = .ok (.agg cs) w) :
    (results fn tmps).run P w = .ok (.tuple #[.agg cs, tmps.getD u undef, tmps.getD v undef, tmps.getD x undef]) w := by
  have hp' : tmps[p]?.getD undef = .pointer (some ⟨g, 0, none⟩) := by simpa using hp
  simp [results, h, hp', asAddr, hl, Sem.run_bind, Result.andThen]
theorem vt_apart : ∀ q, q ∈ (39 : Nat) :: (k39).E → q ≠ 123 := by decide
/-- A row of value types that may be read. -/
def VR (w : World) (v : Value) (xs : List S39) : Prop := ∃ A c, v = .slice A xs.length c ∧ xs.length ≤ c ∧ Kd.C k39 w A xs.length xs
def TAtOut (s? : Option S123) (w : World) (e : Ending) (w' : World) : Prop :=
  match s? with
  | some s => ∃ (E1 : Option Addr) (n1 m1 : Nat) (v2 v3 : Value) (E4 : Option Addr) (n4 m4 : Nat) (i p : Int), e = .returned (.tuple #[.agg #[.bool s.f0, .slice E1 n1 m1, .int .i64 s.f2.f0, v2, v3, .slice E4 n4 m4], .int .i64 i, .int .i64 p, .int .i64 0]) ∧ VR w' v2 s.f2.f1 ∧ VR w' v3 s.f2.f2 ∧ Below w.heap.size w w'
  | none => e = .returned (.tuple #[.agg #[.bool false, .slice none 0 0, .int .i64 0, .slice none 0 0, .slice none 0 0, .slice none 0 0], .int .i64 0, .int .i64 0, .int .i64 50]) ∧ Below w.heap.size w w'
set_option maxRecDepth 100000 in
set_option maxHeartbeats 8000000 in
theorem tAt_calls (A : Option Addr) (c : Nat) (l : List S132) (n : Int) (w : World) (hC : Kd.C k132 w A l.length l) (hb : vL l ≤ 1048576) (hn : NV64 n) :
    Calls Tryz.prog 58 #[.slice A l.length c, .int .i64 n] w (TAtOut (atN l n) w) := by
  have HC := Aside0.mk hC
  have hcnt := vcount_le l
  have HBK := Aside0.mk hb
  have HN := Aside0.mk hn
  have hll : l.length ≤ 1048576 := by omega
  have b0 : Below w.heap.size w (w.alloc (.cells #[.bool false, .slice none 0 0, .int .i64 0, .slice none 0 0, .slice none 0 0, .slice none 0 0] 123)) := (Below.refl _ _).alloc (Nat.le_refl _) _
  have Q0 := Aside0.mk (And.intro b0 (blk_new w (.cells #[.bool false, .slice none 0 0, .int .i64 0, .slice none 0 0, .slice none 0 0, .slice none 0 0] 123)))
  clear hC hcnt hb hn b0
  go_enter Tryz.func58, Tryz.ntmps58
  by_cases hneg : n < 0
  · have EN : Aside0 (atN l n = none) := ⟨by simp [atN, hneg]⟩
    rw [EN.out]
    go_wp2_with fail
    refine bodyPost_ret (results_cell_t4 rfl _ _ w.heap.size #[.bool false, .slice none 0 0, .int .i64 0, .slice none 0 0, .slice none 0 0, .slice none 0 0] rfl (run_loadVar_row _ _ 123 123 _ (0, 0) _ (blk_new w _) Tryz.underlying123 rfl (by kernel_rfl))) rfl ?_
    exact ⟨rfl, (Below.refl _ _).alloc (Nat.le_refl _) _⟩
  have n0 : 0 ≤ n := by omega
  have N0 := Aside0.mk n0
  have EA : Aside0 (atN l n = atV l n) := ⟨by simp [atN, hneg]⟩
  clear hneg
  go_wp2_with fail
  clear n0
  go_loopw [14, 1] (fun i v W => ∃ (j : Nat) (x : Int), i = .int .i64 j ∧ j ≤ l.length ∧ v = .int .i64 x ∧ 0 ≤ x ∧ x ≤ n ∧ atV (l.drop j) x = atV l n ∧ Below w.heap.size w W ∧ W.heap[w.heap.size]? = some (.cells #[.bool false, .slice none 0 0, .int .i64 0, .slice none 0 0, .slice none 0 0, .slice none 0 0] 123 (0, 0))) (fun i _ _ => l.length - (intOf i).toNat)
  case atStart => exact ⟨0, n, rfl, Nat.zero_le _, rfl, N0.out, Int.le_refl _, rfl, Q0.out.1, Q0.out.2⟩
  case round =>
    clear Q0
    obtain ⟨j, x, rfl, hj, rfl, x0, xn, hx, hbw, hbx⟩ := hrel
    have HX := Aside0.mk hx
    have BW := Aside0.mk hbw
    have BX := Aside0.mk hbx
    have XN := Aside0.mk xn
    clear hx hbw hbx xn
    have j0 : (0 : Int) ≤ (j : Int) := Int.natCast_nonneg j
    by_cases hlj : j < l.length
    · obtain ⟨ad, Ar, cr, ea, d0, d1, hrc, hrC⟩ := at_T132 HC.out (j : Int) j0 (by omega)
      subst ea
      have HRJ := Aside0.mk (rd_RT_at0 l j hlj)
      simp only [Int.toNat_natCast] at d0 d1
      obtain ⟨r, hre⟩ : ∃ r, r = rd_T132 l (j : Int) := ⟨_, rfl⟩
      rw [← hre] at d0 d1 hrc hrC HRJ
      clear hre
      have HRC := Aside0.mk hrC
      replace d0 := (BW.out.cell (World.block_lt_of_cell? w _ d0)).trans d0
      replace d1 := (BW.out.cell (World.block_lt_of_cell? w _ d1)).trans d1
      have jl : (j : Int) < (l.length : Int) := by omega
      obtain ⟨W2, hW2⟩ : ∃ W2, W2 = wr.alloc (.cells #[.slice Ar r.f0.length cr, .bool r.f1] 132) := ⟨_, rfl⟩
      have B2 : Aside0 (Below w.heap.size w W2) := ⟨by rw [hW2]; exact BW.out.alloc BW.out.size _⟩
      have X2 : Aside0 (W2.heap[w.heap.size]? = some (.cells #[.bool false, .slice none 0 0, .int .i64 0, .slice none 0 0, .slice none 0 0, .slice none 0 0] 123 (0, 0))) := ⟨by rw [hW2]; exact blk_alloc BX.out _⟩
      clear hrC hrc
      by_cases hxr : x < (r.f0.length : Int)
      · obtain ⟨ae, A1, c1, A3, c3, A4, c4, A5, c5, eb, e0, e1, e2, e3, e4, e5, m1, r1, m3, r3, m4, r4, m5, r5⟩ := at_T123 HRC.out x x0 hxr
        subst eb
        obtain ⟨s, hs⟩ : ∃ s, s = rd_T123 r.f0 x := ⟨_, rfl⟩
        rw [← hs] at e0 e1 e2 e3 e4 e5 m1 r1 m3 r3 m4 r4 m5 r5
        have hsg : r.f0[x.toNat]? = some s := by
          rw [hs]; unfold rd_T123
          rw [List.getD_eq_getElem?_getD, List.getElem?_eq_getElem (by omega)]; rfl
        have EV : Aside0 (atN l n = some s) := ⟨by rw [EA.out, ← HX.out, drop_at HRJ.out]; unfold atV; rw [if_pos hxr, hsg]⟩
        have hsw : vS s ≤ 1048576 := by
          have h1 := v_sum_le vS r.f0 s (List.mem_of_getElem? hsg)
          have h2 := v_sum_le (fun r => vG r.f0 + 1) l r (List.mem_of_getElem? HRJ.out)
          have h3 := HBK.out
          unfold vL at h3
          unfold vG at h2 h3
          omega
        unfold vS at hsw
        have SW : Aside0 (s.f1.length ≤ 1048576 ∧ s.f2.f1.length ≤ 1048576 ∧ s.f2.f2.length ≤ 1048576 ∧ s.f2.f3.length ≤ 1048576) := ⟨⟨by omega, by omega, by omega, by omega⟩⟩
        have RR := Aside0.mk (And.intro r1 (And.intro r3 (And.intro r4 r5)))
        rw [EV.out]
        replace e0 := (BW.out.cell (World.block_lt_of_cell? w _ e0)).trans e0
        replace e1 := (BW.out.cell (World.block_lt_of_cell? w _ e1)).trans e1
        replace e2 := (BW.out.cell (World.block_lt_of_cell? w _ e2)).trans e2
        replace e3 := (BW.out.cell (World.block_lt_of_cell? w _ e3)).trans e3
        replace e4 := (BW.out.cell (World.block_lt_of_cell? w _ e4)).trans e4
        replace e5 := (BW.out.cell (World.block_lt_of_cell? w _ e5)).trans e5
        have hae : (ae.add (x.toNat * 6)).block < wr.heap.size := World.block_lt_of_cell? wr _ e0
        clear m1 r1 m3 r3 m4 r4 m5 r5 hs hsg hsw
        go_wp2_with fail
        rw [← hW2]
        have KT := turned_calls (idCb W2) w () s.f0 s.f2.f0 A1 c1 s.f1 A3 c3 s.f2.f1 A4 c4 s.f2.f2 A5 c5 s.f2.f3 W2 (Nat.le_refl _) B2.out (fun k e => by cases e) (Below.refl _ _) RR.out.1 RR.out.2.1 RR.out.2.2.1 RR.out.2.2.2 (fun _ _ => trivial) (fun _ _ _ => trivial) (fun _ _ _ => trivial) (fun _ _ _ => trivial) (by have := SW.out; omega) (by have := SW.out; omega) (by have := SW.out; omega) (by have := SW.out; omega)
        have i1 : (foldm (fun (s : Unit) h => (s, h)) () s.f1).2 = s.f1 := foldm_id _ (fun _ _ => rfl) _ _
        have iv : ∀ (s : Unit) (x : S39), (tval (fun (s : Unit) h => (s, h)) s x).2 = x := fun s x => by unfold tval; split <;> rfl
        rw [foldm_id _ iv, foldm_id _ iv] at KT
        clear i1 iv hW2 d0 d1 e0 e1 e2 e3 e4 e5 hae
        refine KT.mono ?_
        rintro e w3 ⟨v1, v2, v3, v4, rfl, R1, R2, R3, R4, _, hg⟩
        have B3 := Aside0.mk (B2.out.trans ((below_of_grown hg).mono B2.out.size))
        have hx3 := (below_of_grown hg).block w.heap.size (blk_lt X2.out)
        have X3 := Aside0.mk (hx3.trans X2.out)
        obtain ⟨B1_, b1_, eq1⟩ := Kd.R_slice R1
        obtain ⟨B2_, b2_, eq2⟩ := Kd.R_slice R2
        obtain ⟨B3_, b3_, eq3⟩ := Kd.R_slice R3
        obtain ⟨B4_, b4_, eq4⟩ := Kd.R_slice R4
        subst eq1 eq2 eq3 eq4
        obtain ⟨q4, hq4⟩ : ∃ q4, q4 = (foldm (tfield fun (s : Unit) h => (s, h)) (foldm (tval fun (s : Unit) h => (s, h)) (foldm (tval fun (s : Unit) h => (s, h)) (foldm (fun (s : Unit) h => (s, h)) () s.f1).1 s.f2.f1).1 s.f2.f2).1 s.f2.f3).2.length := ⟨_, rfl⟩
        rw [← hq4]
        clear hq4
        have RV := Aside0.mk (And.intro R2 R3)
        clear R1 R2 R3 R4 hg hx3 KT
        have z0 : w3.cell? ⟨w.heap.size, 0, none⟩ = some (.bool false) := (blk_cell X3.out 0).trans rfl
        have f0 : w3.frozen? ⟨w.heap.size, 0, none⟩ = false := blk_frozen X3.out 0
        have z1 : w3.cell? ⟨w.heap.size, 1, none⟩ = some (.slice none 0 0) := (blk_cell X3.out 1).trans rfl
        have f1 : w3.frozen? ⟨w.heap.size, 1, none⟩ = false := blk_frozen X3.out 1
        have z2 : w3.cell? ⟨w.heap.size, 2, none⟩ = some (.int .i64 0) := (blk_cell X3.out 2).trans rfl
        have f2 : w3.frozen? ⟨w.heap.size, 2, none⟩ = false := blk_frozen X3.out 2
        have z3 : w3.cell? ⟨w.heap.size, 3, none⟩ = some (.slice none 0 0) := (blk_cell X3.out 3).trans rfl
        have f3 : w3.frozen? ⟨w.heap.size, 3, none⟩ = false := blk_frozen X3.out 3
        have z4 : w3.cell? ⟨w.heap.size, 4, none⟩ = some (.slice none 0 0) := (blk_cell X3.out 4).trans rfl
        have f4 : w3.frozen? ⟨w.heap.size, 4, none⟩ = false := blk_frozen X3.out 4
        have z5 : w3.cell? ⟨w.heap.size, 5, none⟩ = some (.slice none 0 0) := (blk_cell X3.out 5).trans rfl
        have f5 : w3.frozen? ⟨w.heap.size, 5, none⟩ = false := blk_frozen X3.out 5
        go_wp2_with fail
        have h0 := X3.out
        have h1 := blk_set h0 0 (.bool s.f0)
        have h2 := blk_set h1 1 (.slice B1_ (foldm (fun (s : Unit) h => (s, h)) () s.f1).2.length b1_)
        have h3 := blk_set h2 2 (.int .i64 s.f2.f0)
        have h4 := blk_set h3 3 (.slice B2_ s.f2.f1.length b2_)
        have h5 := blk_set h4 4 (.slice B3_ s.f2.f2.length b3_)
        have h6 := blk_set h5 5 (.slice B4_ q4 b4_)
        have p0 := RV.out.1
        have y0 := RV.out.2
        have p1 := Kd.R_set p0 h0 vt_apart 0 (.bool s.f0)
        have y1 := Kd.R_set y0 h0 vt_apart 0 (.bool s.f0)
        have p2 := Kd.R_set p1 h1 vt_apart 1 (.slice B1_ (foldm (fun (s : Unit) h => (s, h)) () s.f1).2.length b1_)
        have y2 := Kd.R_set y1 h1 vt_apart 1 (.slice B1_ (foldm (fun (s : Unit) h => (s, h)) () s.f1).2.length b1_)
        have p3 := Kd.R_set p2 h2 vt_apart 2 (.int .i64 s.f2.f0)
        have y3 := Kd.R_set y2 h2 vt_apart 2 (.int .i64 s.f2.f0)
        have p4 := Kd.R_set p3 h3 vt_apart 3 (.slice B2_ s.f2.f1.length b2_)
        have y4 := Kd.R_set y3 h3 vt_apart 3 (.slice B2_ s.f2.f1.length b2_)
        have p5 := Kd.R_set p4 h4 vt_apart 4 (.slice B3_ s.f2.f2.length b3_)
        have y5 := Kd.R_set y4 h4 vt_apart 4 (.slice B3_ s.f2.f2.length b3_)
        have p6 := Kd.R_set p5 h5 vt_apart 5 (.slice B4_ q4 b4_)
        have y6 := Kd.R_set y5 h5 vt_apart 5 (.slice B4_ q4 b4_)
        refine bodyPost_ret (results_cell_t4 rfl _ _ w.heap.size #[.bool s.f0, .slice B1_ (foldm (fun (s : Unit) h => (s, h)) () s.f1).2.length b1_, .int .i64 s.f2.f0, .slice B2_ s.f2.f1.length b2_, .slice B3_ s.f2.f2.length b3_, .slice B4_ q4 b4_] rfl (run_loadVar_row _ _ 123 123 _ (0, 0) _ h6 Tryz.underlying123 rfl (by kernel_rfl))) rfl ?_
        exact ⟨_, _, _, _, _, _, _, _, _, _, rfl, Kd.R_reads p6, Kd.R_reads y6, ((((((B3.out.setCell (p := ⟨w.heap.size, 0, none⟩) (Nat.le_refl _) (.bool s.f0)).setCell (p := ⟨w.heap.size, 1, none⟩) (Nat.le_refl _) (.slice B1_ (foldm (fun (s : Unit) h => (s, h)) () s.f1).2.length b1_)).setCell (p := ⟨w.heap.size, 2, none⟩) (Nat.le_refl _) (.int .i64 s.f2.f0)).setCell (p := ⟨w.heap.size, 3, none⟩) (Nat.le_refl _) (.slice B2_ s.f2.f1.length b2_)).setCell (p := ⟨w.heap.size, 4, none⟩) (Nat.le_refl _) (.slice B3_ s.f2.f2.length b3_)).setCell (p := ⟨w.heap.size, 5, none⟩) (Nat.le_refl _) (.slice B4_ q4 b4_))⟩
      · have hwx : wrap64 (x - (r.f0.length : Int)) = x - r.f0.length := by
          have h1 := HN.out
          have h2 := XN.out
          unfold NV64 at h1
          unfold wrap64; omega
        go_wp2_with fail
        rw [← hW2]
        go_roundw
        case rel => exact ⟨j + 1, x - r.f0.length, by go_num, by omega, by rw [hwx], by omega, by have := XN.out; omega, by rw [← HX.out, drop_at HRJ.out]; conv => rhs; unfold atV; rw [if_neg hxr], B2.out, X2.out⟩
        case measure => simp [intOf]; omega
    · obtain rfl : j = l.length := by omega
      have EN : Aside0 (atN l n = none) := ⟨by rw [EA.out, ← HX.out, List.drop_length]; rfl⟩
      clear hj hlj
      have z0 : wr.cell? ⟨w.heap.size, 0, none⟩ = some (.bool false) := (blk_cell BX.out 0).trans rfl
      have f0 : wr.frozen? ⟨w.heap.size, 0, none⟩ = false := blk_frozen BX.out 0
      have z1 : wr.cell? ⟨w.heap.size, 1, none⟩ = some (.slice none 0 0) := (blk_cell BX.out 1).trans rfl
      have f1 : wr.frozen? ⟨w.heap.size, 1, none⟩ = false := blk_frozen BX.out 1
      have z2 : wr.cell? ⟨w.heap.size, 2, none⟩ = some (.int .i64 0) := (blk_cell BX.out 2).trans rfl
      have f2 : wr.frozen? ⟨w.heap.size, 2, none⟩ = false := blk_frozen BX.out 2
      have z3 : wr.cell? ⟨w.heap.size, 3, none⟩ = some (.slice none 0 0) := (blk_cell BX.out 3).trans rfl
      have f3 : wr.frozen? ⟨w.heap.size, 3, none⟩ = false := blk_frozen BX.out 3
      have z4 : wr.cell? ⟨w.heap.size, 4, none⟩ = some (.slice none 0 0) := (blk_cell BX.out 4).trans rfl
      have f4 : wr.frozen? ⟨w.heap.size, 4, none⟩ = false := blk_frozen BX.out 4
      have z5 : wr.cell? ⟨w.heap.size, 5, none⟩ = some (.slice none 0 0) := (blk_cell BX.out 5).trans rfl
      have f5 : wr.frozen? ⟨w.heap.size, 5, none⟩ = false := blk_frozen BX.out 5
      go_wp2_with fail
      have h0 := BX.out
      have h1 := blk_set h0 0 (.bool false)
      have h2 := blk_set h1 1 (.slice none 0 0)
      have h3 := blk_set h2 2 (.int .i64 0)
      have h4 := blk_set h3 3 (.slice none 0 0)
      have h5 := blk_set h4 4 (.slice none 0 0)
      have h6 := blk_set h5 5 (.slice none 0 0)
      refine bodyPost_ret (results_cell_t4 rfl _ _ w.heap.size #[.bool false, .slice none 0 0, .int .i64 0, .slice none 0 0, .slice none 0 0, .slice none 0 0] rfl (run_loadVar_row _ _ 123 123 _ (0, 0) _ h6 Tryz.underlying123 rfl (by kernel_rfl))) rfl ?_
      rw [EN.out]
      exact ⟨rfl, ((((((BW.out.setCell (p := ⟨w.heap.size, 0, none⟩) (Nat.le_refl _) (.bool false)).setCell (p := ⟨w.heap.size, 1, none⟩) (Nat.le_refl _) (.slice none 0 0)).setCell (p := ⟨w.heap.size, 2, none⟩) (Nat.le_refl _) (.int .i64 0)).setCell (p := ⟨w.heap.size, 3, none⟩) (Nat.le_refl _) (.slice none 0 0)).setCell (p := ⟨w.heap.size, 4, none⟩) (Nat.le_refl _) (.slice none 0 0)).setCell (p := ⟨w.heap.size, 5, none⟩) (Nat.le_refl _) (.slice none 0 0))⟩
def RAtOut (s? : Option S123) (w : World) (e : Ending) (w' : World) : Prop :=
  match s? with
  | some s => ∃ (E1 : Option Addr) (n1 m1 : Nat) (v2 v3 : Value) (E4 : Option Addr) (n4 m4 : Nat) (i p : Int), e = .returned (.tuple #[.agg #[.bool s.f0, .slice E1 n1 m1, .int .i64 s.f2.f0, v2, v3, .slice E4 n4 m4], .int .i64 i, .int .i64 p, .bool true]) ∧ VR w' v2 s.f2.f1 ∧ VR w' v3 s.f2.f2 ∧ Below w.heap.size w w'
  | none => e = .returned (.tuple #[.agg #[.bool false, .slice none 0 0, .int .i64 0, .slice none 0 0, .slice none 0 0, .slice none 0 0], .int .i64 0, .int .i64 0, .bool false]) ∧ Below w.heap.size w w'
set_option maxRecDepth 100000 in
set_option maxHeartbeats 8000000 in
theorem rAt_calls (A : Option Addr) (c : Nat) (l : List S132) (n : Int) (w : World) (hC : Kd.C k132 w A l.length l) (hb : vL l ≤ 1048576) (hn : NV64 n) :
    Calls Tryz.prog 59 #[.slice A l.length c, .int .i64 n] w (RAtOut (atN l n) w) := by
  have HC := Aside0.mk hC
  have hcnt := vcount_le l
  have HN := Aside0.mk hn
  have hll : l.length ≤ 1048576 := by omega
  have b0 : Below w.heap.size w (w.alloc (.cells #[.bool false, .slice none 0 0, .int .i64 0, .slice none 0 0, .slice none 0 0, .slice none 0 0] 123)) := (Below.refl _ _).alloc (Nat.le_refl _) _
  have HB := Aside0.mk b0
  clear hC hcnt hb hn b0
  go_enter Tryz.func59, Tryz.ntmps59
  by_cases hneg : n < 0
  · have EN : Aside0 (atN l n = none) := ⟨by simp [atN, hneg]⟩
    rw [EN.out]
    go_wp2_with fail
    refine bodyPost_ret (results_cell_t4 rfl _ _ w.heap.size #[.bool false, .slice none 0 0, .int .i64 0, .slice none 0 0, .slice none 0 0, .slice none 0 0] rfl (run_loadVar_row _ _ 123 123 _ (0, 0) _ (blk_new w _) Tryz.underlying123 rfl (by kernel_rfl))) rfl ?_
    exact ⟨rfl, (Below.refl _ _).alloc (Nat.le_refl _) _⟩
  have n0 : 0 ≤ n := by omega
  have N0 := Aside0.mk n0
  have EA : Aside0 (atN l n = atV l n) := ⟨by simp [atN, hneg]⟩
  clear hneg
  go_wp2_with fail
  clear n0
  go_loopw [1, 8] (fun v i W => ∃ (j : Nat) (x : Int), i = .int .i64 j ∧ j ≤ l.length ∧ v = .int .i64 x ∧ 0 ≤ x ∧ x ≤ n ∧ atV (l.drop j) x = atV l n ∧ W = w.alloc (.cells #[.bool false, .slice none 0 0, .int .i64 0, .slice none 0 0, .slice none 0 0, .slice none 0 0] 123)) (fun _ i _ => l.length - (intOf i).toNat)
  case atStart => exact ⟨0, n, rfl, Nat.zero_le _, rfl, N0.out, Int.le_refl _, rfl, rfl⟩
  case round =>
    obtain ⟨j, x, rfl, hj, rfl, x0, xn, hx, rfl⟩ := hrel
    have HX := Aside0.mk hx
    have XN := Aside0.mk xn
    clear hx xn
    have j0 : (0 : Int) ≤ (j : Int) := Int.natCast_nonneg j
    by_cases hlj : j < l.length
    · obtain ⟨ad, Ar, cr, ea, d0, d1, hrc, hrC⟩ := at_T132 HC.out (j : Int) j0 (by omega)
      subst ea
      have HRJ := Aside0.mk (rd_RT_at0 l j hlj)
      simp only [Int.toNat_natCast] at d0 d1
      obtain ⟨r, hre⟩ : ∃ r, r = rd_T132 l (j : Int) := ⟨_, rfl⟩
      rw [← hre] at d0 d1 hrc hrC HRJ
      clear hre
      have HRC := Aside0.mk hrC
      replace d0 := (HB.out.cell (World.block_lt_of_cell? w _ d0)).trans d0
      have jl : (j : Int) < (l.length : Int) := by omega
      clear hrC hrc d1
      by_cases hxr : x < (r.f0.length : Int)
      · obtain ⟨ae, A1, c1, A3, c3, A4, c4, A5, c5, eb, e0, e1, e2, e3, e4, e5, m1, r1, m3, r3, m4, r4, m5, r5⟩ := at_T123 HRC.out x x0 hxr
        subst eb
        obtain ⟨s, hs⟩ : ∃ s, s = rd_T123 r.f0 x := ⟨_, rfl⟩
        rw [← hs] at e0 e1 e2 e3 e4 e5 m1 r1 m3 r3 m4 r4 m5 r5
        have hsg : r.f0[x.toNat]? = some s := by
          rw [hs]; unfold rd_T123
          rw [List.getD_eq_getElem?_getD, List.getElem?_eq_getElem (by omega)]; rfl
        have EV : Aside0 (atN l n = some s) := ⟨by rw [EA.out, ← HX.out, drop_at HRJ.out]; unfold atV; rw [if_pos hxr, hsg]⟩
        have RR := Aside0.mk (And.intro (And.intro m3 r3) (And.intro m4 r4))
        rw [EV.out]
        replace e0 := (HB.out.cell (World.block_lt_of_cell? w _ e0)).trans e0
        replace e1 := (HB.out.cell (World.block_lt_of_cell? w _ e1)).trans e1
        replace e2 := (HB.out.cell (World.block_lt_of_cell? w _ e2)).trans e2
        replace e3 := (HB.out.cell (World.block_lt_of_cell? w _ e3)).trans e3
        replace e4 := (HB.out.cell (World.block_lt_of_cell? w _ e4)).trans e4
        replace e5 := (HB.out.cell (World.block_lt_of_cell? w _ e5)).trans e5
        clear m1 r1 m3 r3 m4 r4 m5 r5 hs hsg
        go_wp2_with fail
        have hbl : Below w.heap.size w (w.alloc (.cells #[.bool s.f0, .slice A1 s.f1.length c1, .int .i64 s.f2.f0, .slice A3 s.f2.f1.length c3, .slice A4 s.f2.f2.length c4, .slice A5 s.f2.f3.length c5] 123)) := (Below.refl _ _).alloc (Nat.le_refl _) _
        refine bodyPost_ret (results_cell_t4 rfl _ _ w.heap.size #[.bool s.f0, .slice A1 s.f1.length c1, .int .i64 s.f2.f0, .slice A3 s.f2.f1.length c3, .slice A4 s.f2.f2.length c4, .slice A5 s.f2.f3.length c5] rfl (run_loadVar_row _ _ 123 123 _ (0, 0) _ (blk_new w _) Tryz.underlying123 rfl (by kernel_rfl))) rfl ?_
        exact ⟨_, _, _, _, _, _, _, _, _, _, rfl, ⟨_, _, rfl, RR.out.1.1, Kd.C_below RR.out.1.2 hbl⟩, ⟨_, _, rfl, RR.out.2.1, Kd.C_below RR.out.2.2 hbl⟩, hbl⟩
      · have hwx : wrap64 (x - (r.f0.length : Int)) = x - r.f0.length := by
          have h1 := HN.out
          have h2 := XN.out
          unfold NV64 at h1
          unfold wrap64; omega
        go_wp2_with fail
        go_roundw
        case rel => exact ⟨j + 1, x - r.f0.length, by go_num, by omega, by rw [hwx], by omega, by have := XN.out; omega, by rw [← HX.out, drop_at HRJ.out]; conv => rhs; unfold atV; rw [if_neg hxr], trivial⟩
        case measure => simp [intOf]; omega
    · obtain rfl : j = l.length := by omega
      have EN : Aside0 (atN l n = none) := ⟨by rw [EA.out, ← HX.out, List.drop_length]; rfl⟩
      clear hj hlj
      go_wp2_with fail
      refine bodyPost_ret (results_cell_t4 rfl _ _ w.heap.size #[.bool false, .slice none 0 0, .int .i64 0, .slice none 0 0, .slice none 0 0, .slice none 0 0] rfl (run_loadVar_row _ _ 123 123 _ (0, 0) _ (blk_new w _) Tryz.underlying123 rfl (by kernel_rfl))) rfl ?_
      rw [EN.out]
      exact ⟨rfl, (Below.refl _ _).alloc (Nat.le_refl _) _⟩
end Go.Proofs.YtohlmkcgempdlaaGreatDoor.Cn
namespace Go.Proofs.YtohlmkcgempdlaaGreatDoor.QD
open Go.RowKit Go.Proofs.YtohlmkcgempdlaaGreatDoorW.PrintWords Go.Proofs.YtohlmkcgempdlaaGreatDoorW.PrintLast Go.Proofs.YtohlmkcgempdlaaGreatDoorW.PrintMore
attribute [local go_sem] max2_int min2_int max_two min_two max_three min_three max_four min_four 
set_option linter.unusedVariables false
set_option linter.unusedSimpArgs false
def ratchetref05_Count.l0 : Nat → List (S132) → Int → Int → Option (Int)
  | 0, _, _, _ => none
  | k + 1, x0, x3, x4 => if x4 < (x0.length : Int) then (if 0 ≤ x4 then (ratchetref05_Count.l0 k x0 (wrap64 (x3 + (((rd_T132 x0 x4).f0).length : Int))) (wrap64 (x4 + 1))) else (none)) else (some x3)
def ratchetref05_Count.f (k : Nat) (l0 : List (S132)) : Option (Int) := ratchetref05_Count.l0 k l0 0 0
set_option maxHeartbeats 8000000 in
set_option maxRecDepth 100000 in
theorem ratchetref05_Count.calls (k : Nat) (A0 : Option Addr) (c0 : Nat) (l0 : List (S132)) (r : Int) (w : World) (hr0 : Kd.C k132 w A0 l0.length l0) (hc0 : l0.length ≤ c0) (h : ratchetref05_Count.f k l0 = some r) :
    Calls Tryz.prog 81 #[.slice A0 l0.length c0] w fun e w' => e = .returned (.int .i64 r) ∧ Drawn0 w w' := by
  have HR0 := Aside0.mk hr0
  have HC0 := Aside0.mk hc0
  clear hr0 hc0
  have H : (ratchetref05_Count.l0 k l0 0 0) = some r := h
  clear h
  have H' := Aside0.mk H
  clear H
  go_enter Tryz.func81, Tryz.ntmps81
  go_wp2
  go_loopg [3, 4] k (fun kq v3 v4 w' => ∃ (x3_1 : Int) (x4_1 : Int), v3 = .int .i64 x3_1 ∧ v4 = .int .i64 x4_1 ∧ Aside0 (ratchetref05_Count.l0 kq l0 x3_1 x4_1 = some r) ∧ Aside0 (kq ≤ k) ∧ Drawn0 w w')
  case atStart => exact ⟨(0), (0), (by first | rfl | (simp; done) | (simp [*]; done)), (by first | rfl | (simp; done) | (simp [*]; done)), H', ⟨Nat.le_refl _⟩, by repeat (first | exact Drawn0.refl _ | apply Drawn0.step)⟩
  case round =>
    clear H'
    obtain ⟨x3_1, x4_1, rfl, rfl, HA, HK1, ⟨m1, rfl⟩⟩ := hrel
    cases gk with
    | zero => exact absurd HA.out (by simp [ratchetref05_Count.l0])
    | succ k1 =>
      have H := HA.out
      clear HA
      simp only [ratchetref05_Count.l0] at H
      by_cases c2 : x4_1 < (l0.length : Int)
      · rw [if_pos c2] at H
        have c2b0 : decide (x4_1 < (l0.length : Int)) = true := decide_eq_true c2
        clear c2
        by_cases c3 : 0 ≤ x4_1
        · rw [if_pos c3] at H
          have c3b0 : decide (0 ≤ x4_1) = true := decide_eq_true c3
          clear c3
          have H' := Aside0.mk H
          clear H
          have p130 : 0 ≤ (x4_1 : Int) := of_decide_eq_true (by first | (with_reducible assumption) | assumption)
          have q130 : x4_1 < (l0.length : Int) := of_decide_eq_true (by first | (with_reducible assumption) | assumption)
          obtain ⟨ad130, A130_0, c130_0, e130, hx130_0, hx130_1, hl130_0, hi130_0⟩ := at_T132 HR0.out x4_1 p130 q130
          cases e130
          have HR130_0 := Aside0.mk hi130_0
          have HC130_0 := Aside0.mk hl130_0
          clear hi130_0 hl130_0
          replace p130 := eq_true p130
          replace q130 := eq_true q130
          go_wp2
          go_roundg k1
          case measure => have := HK1.out; omega
          case rel => exact ⟨(wrap64 (x3_1 + (((rd_T132 l0 x4_1).f0).length : Int))), (wrap64 (x4_1 + 1)), (by first | rfl | (simp; done) | (simp [*]; done)), (by first | rfl | (simp; done) | (simp [*]; done)), H', ⟨by have := HK1.out; omega⟩, by repeat (first | exact Drawn0.refl _ | apply Drawn0.step)⟩
        · rw [if_neg c3] at H
          exact absurd H (by simp)
      · rw [if_neg c2] at H
        have c2b0 : decide (x4_1 < (l0.length : Int)) = false := decide_eq_false c2
        clear c2
        obtain rfl := Option.some.inj H
        go_wp2
        go_ret
        exact ⟨by first | rfl | (simp; done) | (simp [*]; done), by repeat (first | exact Drawn0.refl _ | apply Drawn0.step)⟩
def ratchetref14_Known.f (k : Nat) (l0_0 : List (S132)) (l0_1 : List Int) (l0_2 : List (S214)) (l0_3 : List (S212)) (l0_4 : List (S292)) (l0_5 : List Int) (l0_6 : List (S39)) (a0_7 : Int) (l0_8 : List Bool) (a1_0 : Int) (a1_1 : Bool) (a1_2 : Int) : Option (Bool) := if a1_0 = 5 then (if a1_2 ≥ (-12) then ((ratchetref05_Count.f k l0_0).bind fun t133 => (some (decide (a1_2 < t133)))) else (some false)) else (some true)
set_option maxHeartbeats 8000000 in
set_option maxRecDepth 100000 in
theorem ratchetref14_Known.calls (k : Nat) (A0_0 : Option Addr) (c0_0 : Nat) (l0_0 : List (S132)) (A0_1 : Option Addr) (c0_1 : Nat) (l0_1 : List Int) (A0_2 : Option Addr) (c0_2 : Nat) (l0_2 : List (S214)) (A0_3 : Option Addr) (c0_3 : Nat) (l0_3 : List (S212)) (A0_4 : Option Addr) (c0_4 : Nat) (l0_4 : List (S292)) (A0_5 : Option Addr) (c0_5 : Nat) (l0_5 : List Int) (A0_6 : Option Addr) (c0_6 : Nat) (l0_6 : List (S39)) (a0_7 : Int) (A0_8 : Option Addr) (c0_8 : Nat) (l0_8 : List Bool) (a1_0 : Int) (a1_1 : Bool) (a1_2 : Int) (r : Bool) (w : World) (hr0_0 : Kd.C k132 w A0_0 l0_0.length l0_0) (hc0_0 : l0_0.length ≤ c0_0) (hr0_1 : Kd.C (Kd.int .i64) w A0_1 l0_1.length l0_1) (hc0_1 : l0_1.length ≤ c0_1) (hr0_2 : Kd.C k214 w A0_2 l0_2.length l0_2) (hc0_2 : l0_2.length ≤ c0_2) (hr0_3 : Kd.C k212 w A0_3 l0_3.length l0_3) (hc0_3 : l0_3.length ≤ c0_3) (hr0_4 : Kd.C k292 w A0_4 l0_4.length l0_4) (hc0_4 : l0_4.length ≤ c0_4) (hr0_5 : Kd.C (Kd.int .i64) w A0_5 l0_5.length l0_5) (hc0_5 : l0_5.length ≤ c0_5) (hr0_6 : Kd.C k39 w A0_6 l0_6.length l0_6) (hc0_6 : l0_6.length ≤ c0_6) (hr0_8 : Kd.C Kd.bool w A0_8 l0_8.length l0_8) (hc0_8 : l0_8.length ≤ c0_8) (h : ratchetref14_Known.f k l0_0 l0_1 l0_2 l0_3 l0_4 l0_5 l0_6 a0_7 l0_8 a1_0 a1_1 a1_2 = some r) :
    Calls Tryz.prog 41 #[.agg #[.slice A0_0 l0_0.length c0_0, .slice A0_1 l0_1.length c0_1, .slice A0_2 l0_2.length c0_2, .slice A0_3 l0_3.length c0_3, .slice A0_4 l0_4.length c0_4, .slice A0_5 l0_5.length c0_5, .slice A0_6 l0_6.length c0_6, .int .i64 a0_7, .slice A0_8 l0_8.length c0_8], .agg #[.int .i64 a1_0, .bool a1_1, .int .i64 a1_2]] w fun e w' => e = .returned (.bool r) ∧ Below w.heap.size w w' := by
  have hu30 := Tryz.underlying30
  have hu39 := Tryz.underlying39
  have HR0_0 := Aside0.mk hr0_0
  have HC0_0 := Aside0.mk hc0_0
  clear hr0_0 hc0_0
  have HR0_1 := Aside0.mk hr0_1
  have HC0_1 := Aside0.mk hc0_1
  clear hr0_1 hc0_1
  have HR0_2 := Aside0.mk hr0_2
  have HC0_2 := Aside0.mk hc0_2
  clear hr0_2 hc0_2
  have HR0_3 := Aside0.mk hr0_3
  have HC0_3 := Aside0.mk hc0_3
  clear hr0_3 hc0_3
  have HR0_4 := Aside0.mk hr0_4
  have HC0_4 := Aside0.mk hc0_4
  clear hr0_4 hc0_4
  have HR0_5 := Aside0.mk hr0_5
  have HC0_5 := Aside0.mk hc0_5
  clear hr0_5 hc0_5
  have HR0_6 := Aside0.mk hr0_6
  have HC0_6 := Aside0.mk hc0_6
  clear hr0_6 hc0_6
  have HR0_8 := Aside0.mk hr0_8
  have HC0_8 := Aside0.mk hc0_8
  clear hr0_8 hc0_8
  have HB := Aside0.mk (Below.refl w.heap.size w)
  have H : (if a1_0 = 5 then (if a1_2 ≥ (-12) then ((ratchetref05_Count.f k l0_0).bind fun t133 => (some (decide (a1_2 < t133)))) else (some false)) else (some true)) = some r := h
  clear h
  by_cases c3 : a1_0 = 5
  · rw [if_pos c3] at H
    have c3b0 : (a1_0 == 5) = true := beq_iff_eq.mpr c3
    have c3b1 : (a1_0 != 5) = false := bne_eq_false_iff_eq.mpr c3
    clear c3
    by_cases c4 : a1_2 ≥ (-12)
    · rw [if_pos c4] at H
      have c4b0 : decide ((-12) ≤ a1_2) = true := decide_eq_true c4
      clear c4
      replace H := Option.bind_eq_some_iff.mp H
      obtain ⟨t133, A50, H⟩ := H
      replace H : (some (decide (a1_2 < t133))) = some r := H
      have A5 := Aside0.mk A50
      clear A50
      obtain rfl := Option.some.inj H
      go_enter Tryz.func41, Tryz.ntmps41
      go_wp2_with (first | ((with_reducible refine gate_dst (N := 2) rfl ?_); refine box_event ?hg (N := 2) ?hd (cs := #[.slice A0_0 l0_0.length c0_0, .slice A0_1 l0_1.length c0_1, .slice A0_2 l0_2.length c0_2, .slice A0_3 l0_3.length c0_3, .slice A0_4 l0_4.length c0_4, .slice A0_5 l0_5.length c0_5, .slice A0_6 l0_6.length c0_6, .int .i64 a0_7, .slice A0_8 l0_8.length c0_8]) (t := 30) ?hr ?_; (case hd => rfl); (case hg => rfl); (case hr => first | (go_simp; done) | (go_simp; rfl)); intro gb131 hg w6 hbox hb; have n0_ := Aside0.mk (below_step (by repeat (first | (with_reducible first | exact HB.out | apply below_alloc | apply pw_below_drewN | apply below_drew1) | exact HB.out)) hb); have n1_ := Aside0.mk (hbox); have n2_ := Aside0.mk ((by rw [hg]; exact (below_size (by repeat (first | (with_reducible first | exact HB.out | apply below_alloc | apply pw_below_drewN | apply below_drew1) | exact HB.out))) : w.heap.size ≤ gb131)); have n3_ := Aside0.mk ((by rw [hg]; exact (below_size (by repeat (first | (with_reducible first | exact HB.out | apply below_alloc | apply pw_below_drewN | apply below_drew1) | exact HB.out))) : w.heap.size ≤ gb131)); clear HB; have HB := n0_; have BK131 := n1_; have GW131 := n2_; have GE131 := n3_; clear n0_ n1_ n2_ n3_; clear hb hbox hg) | ((with_reducible refine gate_dst (N := 3) rfl ?_); refine box_event ?hg (N := 3) ?hd (cs := #[.int .i64 a1_0, .bool a1_1, .int .i64 a1_2]) (t := 39) ?hr ?_; (case hd => rfl); (case hg => rfl); (case hr => first | (go_simp; done) | (go_simp; rfl)); intro gb132 hg w7 hbox hb; have n0_ := Aside0.mk (blk_below (g := gb131) (o := .cells #[.slice A0_0 l0_0.length c0_0, .slice A0_1 l0_1.length c0_1, .slice A0_2 l0_2.length c0_2, .slice A0_3 l0_3.length c0_3, .slice A0_4 l0_4.length c0_4, .slice A0_5 l0_5.length c0_5, .slice A0_6 l0_6.length c0_6, .int .i64 a0_7, .slice A0_8 l0_8.length c0_8] 30 (0, 0)) (by (with_reducible repeat (first | refine blk_drewN ?_ _ | refine blk_drew ?_ | refine blk_alloc ?_ _)); exact BK131.out) hb); have n1_ := Aside0.mk (below_step (by repeat (first | (with_reducible first | exact HB.out | apply below_alloc | apply pw_below_drewN | apply below_drew1 | refine below_set ?_ GE131.out) | exact HB.out)) hb); have n2_ := Aside0.mk (hbox); have n3_ := Aside0.mk ((by rw [hg]; exact (below_size (by repeat (first | (with_reducible first | exact HB.out | apply below_alloc | apply pw_below_drewN | apply below_drew1 | refine below_set ?_ GE131.out) | exact HB.out))) : w.heap.size ≤ gb132)); have n4_ := Aside0.mk ((by rw [hg]; exact (below_size (by repeat (first | (with_reducible first | exact HB.out | apply below_alloc | apply pw_below_drewN | apply below_drew1 | refine below_set ?_ GE131.out) | exact HB.out))) : w.heap.size ≤ gb132)); have n5_ := Aside0.mk ((by rw [hg]; exact Nat.ne_of_lt (blk_lt (g := gb131) (o := .cells #[.slice A0_0 l0_0.length c0_0, .slice A0_1 l0_1.length c0_1, .slice A0_2 l0_2.length c0_2, .slice A0_3 l0_3.length c0_3, .slice A0_4 l0_4.length c0_4, .slice A0_5 l0_5.length c0_5, .slice A0_6 l0_6.length c0_6, .int .i64 a0_7, .slice A0_8 l0_8.length c0_8] 30 (0, 0)) (by (with_reducible repeat (first | refine blk_drewN ?_ _ | refine blk_drew ?_ | refine blk_alloc ?_ _)); exact BK131.out)) : gb131 ≠ gb132)); have n6_ := Aside0.mk ((by rw [hg]; exact Nat.ne_of_gt (blk_lt (g := gb131) (o := .cells #[.slice A0_0 l0_0.length c0_0, .slice A0_1 l0_1.length c0_1, .slice A0_2 l0_2.length c0_2, .slice A0_3 l0_3.length c0_3, .slice A0_4 l0_4.length c0_4, .slice A0_5 l0_5.length c0_5, .slice A0_6 l0_6.length c0_6, .int .i64 a0_7, .slice A0_8 l0_8.length c0_8] 30 (0, 0)) (by (with_reducible repeat (first | refine blk_drewN ?_ _ | refine blk_drew ?_ | refine blk_alloc ?_ _)); exact BK131.out)) : gb132 ≠ gb131)); clear BK131; clear HB; have BK131 := n0_; have HB := n1_; have BK132 := n2_; have GW132 := n3_; have GE132 := n4_; have NB131_132 := n5_; have NB132_131 := n6_; clear n0_ n1_ n2_ n3_ n4_ n5_ n6_; clear hb hbox hg; have hnb8 := NB132_131.out; have hnc8 := NB131_132.out; have hcz9_0 : w7.cell? ⟨gb132, 0, none⟩ = some (.int .i64 a1_0) := (blk_cell BK132.out 0).trans rfl; have hcz9_1 : w7.cell? ⟨gb132, 1, none⟩ = some (.bool a1_1) := (blk_cell BK132.out 1).trans rfl; have hcz9_2 : w7.cell? ⟨gb132, 2, none⟩ = some (.int .i64 a1_2) := (blk_cell BK132.out 2).trans rfl; have hfz9_0 := blk_frozen BK132.out 0; have hfz9_1 := blk_frozen BK132.out 1; have hfz9_2 := blk_frozen BK132.out 2; have hcz10_0 : w7.cell? ⟨gb131, 0, none⟩ = some (.slice A0_0 l0_0.length c0_0) := (blk_cell BK131.out 0).trans rfl; have hcz10_1 : w7.cell? ⟨gb131, 1, none⟩ = some (.slice A0_1 l0_1.length c0_1) := (blk_cell BK131.out 1).trans rfl; have hcz10_2 : w7.cell? ⟨gb131, 2, none⟩ = some (.slice A0_2 l0_2.length c0_2) := (blk_cell BK131.out 2).trans rfl; have hcz10_3 : w7.cell? ⟨gb131, 3, none⟩ = some (.slice A0_3 l0_3.length c0_3) := (blk_cell BK131.out 3).trans rfl; have hcz10_4 : w7.cell? ⟨gb131, 4, none⟩ = some (.slice A0_4 l0_4.length c0_4) := (blk_cell BK131.out 4).trans rfl; have hcz10_5 : w7.cell? ⟨gb131, 5, none⟩ = some (.slice A0_5 l0_5.length c0_5) := (blk_cell BK131.out 5).trans rfl; have hcz10_6 : w7.cell? ⟨gb131, 6, none⟩ = some (.slice A0_6 l0_6.length c0_6) := (blk_cell BK131.out 6).trans rfl; have hcz10_7 : w7.cell? ⟨gb131, 7, none⟩ = some (.int .i64 a0_7) := (blk_cell BK131.out 7).trans rfl; have hcz10_8 : w7.cell? ⟨gb131, 8, none⟩ = some (.slice A0_8 l0_8.length c0_8) := (blk_cell BK131.out 8).trans rfl; have hfz10_0 := blk_frozen BK131.out 0; have hfz10_1 := blk_frozen BK131.out 1; have hfz10_2 := blk_frozen BK131.out 2; have hfz10_3 := blk_frozen BK131.out 3; have hfz10_4 := blk_frozen BK131.out 4; have hfz10_5 := blk_frozen BK131.out 5; have hfz10_6 := blk_frozen BK131.out 6; have hfz10_7 := blk_frozen BK131.out 7; have hfz10_8 := blk_frozen BK131.out 8) | (go_at_call 81; (with_reducible refine (ratchetref05_Count.calls k _ _ l0_0 t133 _ ?side1 ?side2 A5.out).mono ?_); (case side1 => repeat (first | exact (Kd.C_below HR0_0.out HB.out) | (with_reducible refine Kd.C_alloc ?_ _) | (with_reducible refine Kd.C_drewN ?_ _) | (with_reducible refine Kd.C_drew ?_))); (case side2 => exact HC0_0.out); rintro e w' ⟨rfl, ⟨nd, rfl⟩⟩; (try first | exact ⟨rfl, _, World.drewN_drewN _ _ _⟩ | exact ⟨rfl, _, Eq.trans (World.drewN_drewN _ _ _) (congrArg (World.drewN _) (Nat.add_assoc _ _ _))⟩)))
      repeat (go_quiet (first | ((with_reducible refine gate_dst (N := 2) rfl ?_); refine box_event ?hg (N := 2) ?hd (cs := #[.slice A0_0 l0_0.length c0_0, .slice A0_1 l0_1.length c0_1, .slice A0_2 l0_2.length c0_2, .slice A0_3 l0_3.length c0_3, .slice A0_4 l0_4.length c0_4, .slice A0_5 l0_5.length c0_5, .slice A0_6 l0_6.length c0_6, .int .i64 a0_7, .slice A0_8 l0_8.length c0_8]) (t := 30) ?hr ?_; (case hd => rfl); (case hg => rfl); (case hr => first | (go_simp; done) | (go_simp; rfl)); intro gb131 hg w6 hbox hb; have n0_ := Aside0.mk (below_step (by repeat (first | (with_reducible first | exact HB.out | apply below_alloc | apply pw_below_drewN | apply below_drew1) | exact HB.out)) hb); have n1_ := Aside0.mk (hbox); have n2_ := Aside0.mk ((by rw [hg]; exact (below_size (by repeat (first | (with_reducible first | exact HB.out | apply below_alloc | apply pw_below_drewN | apply below_drew1) | exact HB.out))) : w.heap.size ≤ gb131)); have n3_ := Aside0.mk ((by rw [hg]; exact (below_size (by repeat (first | (with_reducible first | exact HB.out | apply below_alloc | apply pw_below_drewN | apply below_drew1) | exact HB.out))) : w.heap.size ≤ gb131)); clear HB; have HB := n0_; have BK131 := n1_; have GW131 := n2_; have GE131 := n3_; clear n0_ n1_ n2_ n3_; clear hb hbox hg) | ((with_reducible refine gate_dst (N := 3) rfl ?_); refine box_event ?hg (N := 3) ?hd (cs := #[.int .i64 a1_0, .bool a1_1, .int .i64 a1_2]) (t := 39) ?hr ?_; (case hd => rfl); (case hg => rfl); (case hr => first | (go_simp; done) | (go_simp; rfl)); intro gb132 hg w7 hbox hb; have n0_ := Aside0.mk (blk_below (g := gb131) (o := .cells #[.slice A0_0 l0_0.length c0_0, .slice A0_1 l0_1.length c0_1, .slice A0_2 l0_2.length c0_2, .slice A0_3 l0_3.length c0_3, .slice A0_4 l0_4.length c0_4, .slice A0_5 l0_5.length c0_5, .slice A0_6 l0_6.length c0_6, .int .i64 a0_7, .slice A0_8 l0_8.length c0_8] 30 (0, 0)) (by (with_reducible repeat (first | refine blk_drewN ?_ _ | refine blk_drew ?_ | refine blk_alloc ?_ _)); exact BK131.out) hb); have n1_ := Aside0.mk (below_step (by repeat (first | (with_reducible first | exact HB.out | apply below_alloc | apply pw_below_drewN | apply below_drew1 | refine below_set ?_ GE131.out) | exact HB.out)) hb); have n2_ := Aside0.mk (hbox); have n3_ := Aside0.mk ((by rw [hg]; exact (below_size (by repeat (first | (with_reducible first | exact HB.out | apply below_alloc | apply pw_below_drewN | apply below_drew1 | refine below_set ?_ GE131.out) | exact HB.out))) : w.heap.size ≤ gb132)); have n4_ := Aside0.mk ((by rw [hg]; exact (below_size (by repeat (first | (with_reducible first | exact HB.out | apply below_alloc | apply pw_below_drewN | apply below_drew1 | refine below_set ?_ GE131.out) | exact HB.out))) : w.heap.size ≤ gb132)); have n5_ := Aside0.mk ((by rw [hg]; exact Nat.ne_of_lt (blk_lt (g := gb131) (o := .cells #[.slice A0_0 l0_0.length c0_0, .slice A0_1 l0_1.length c0_1, .slice A0_2 l0_2.length c0_2, .slice A0_3 l0_3.length c0_3, .slice A0_4 l0_4.length c0_4, .slice A0_5 l0_5.length c0_5, .slice A0_6 l0_6.length c0_6, .int .i64 a0_7, .slice A0_8 l0_8.length c0_8] 30 (0, 0)) (by (with_reducible repeat (first | refine blk_drewN ?_ _ | refine blk_drew ?_ | refine blk_alloc ?_ _)); exact BK131.out)) : gb131 ≠ gb132)); have n6_ := Aside0.mk ((by rw [hg]; exact Nat.ne_of_gt (blk_lt (g := gb131) (o := .cells #[.slice A0_0 l0_0.length c0_0, .slice A0_1 l0_1.length c0_1, .slice A0_2 l0_2.length c0_2, .slice A0_3 l0_3.length c0_3, .slice A0_4 l0_4.length c0_4, .slice A0_5 l0_5.length c0_5, .slice A0_6 l0_6.length c0_6, .int .i64 a0_7, .slice A0_8 l0_8.length c0_8] 30 (0, 0)) (by (with_reducible repeat (first | refine blk_drewN ?_ _ | refine blk_drew ?_ | refine blk_alloc ?_ _)); exact BK131.out)) : gb132 ≠ gb131)); clear BK131; clear HB; have BK131 := n0_; have HB := n1_; have BK132 := n2_; have GW132 := n3_; have GE132 := n4_; have NB131_132 := n5_; have NB132_131 := n6_; clear n0_ n1_ n2_ n3_ n4_ n5_ n6_; clear hb hbox hg; have hnb8 := NB132_131.out; have hnc8 := NB131_132.out; have hcz9_0 : w7.cell? ⟨gb132, 0, none⟩ = some (.int .i64 a1_0) := (blk_cell BK132.out 0).trans rfl; have hcz9_1 : w7.cell? ⟨gb132, 1, none⟩ = some (.bool a1_1) := (blk_cell BK132.out 1).trans rfl; have hcz9_2 : w7.cell? ⟨gb132, 2, none⟩ = some (.int .i64 a1_2) := (blk_cell BK132.out 2).trans rfl; have hfz9_0 := blk_frozen BK132.out 0; have hfz9_1 := blk_frozen BK132.out 1; have hfz9_2 := blk_frozen BK132.out 2; have hcz10_0 : w7.cell? ⟨gb131, 0, none⟩ = some (.slice A0_0 l0_0.length c0_0) := (blk_cell BK131.out 0).trans rfl; have hcz10_1 : w7.cell? ⟨gb131, 1, none⟩ = some (.slice A0_1 l0_1.length c0_1) := (blk_cell BK131.out 1).trans rfl; have hcz10_2 : w7.cell? ⟨gb131, 2, none⟩ = some (.slice A0_2 l0_2.length c0_2) := (blk_cell BK131.out 2).trans rfl; have hcz10_3 : w7.cell? ⟨gb131, 3, none⟩ = some (.slice A0_3 l0_3.length c0_3) := (blk_cell BK131.out 3).trans rfl; have hcz10_4 : w7.cell? ⟨gb131, 4, none⟩ = some (.slice A0_4 l0_4.length c0_4) := (blk_cell BK131.out 4).trans rfl; have hcz10_5 : w7.cell? ⟨gb131, 5, none⟩ = some (.slice A0_5 l0_5.length c0_5) := (blk_cell BK131.out 5).trans rfl; have hcz10_6 : w7.cell? ⟨gb131, 6, none⟩ = some (.slice A0_6 l0_6.length c0_6) := (blk_cell BK131.out 6).trans rfl; have hcz10_7 : w7.cell? ⟨gb131, 7, none⟩ = some (.int .i64 a0_7) := (blk_cell BK131.out 7).trans rfl; have hcz10_8 : w7.cell? ⟨gb131, 8, none⟩ = some (.slice A0_8 l0_8.length c0_8) := (blk_cell BK131.out 8).trans rfl; have hfz10_0 := blk_frozen BK131.out 0; have hfz10_1 := blk_frozen BK131.out 1; have hfz10_2 := blk_frozen BK131.out 2; have hfz10_3 := blk_frozen BK131.out 3; have hfz10_4 := blk_frozen BK131.out 4; have hfz10_5 := blk_frozen BK131.out 5; have hfz10_6 := blk_frozen BK131.out 6; have hfz10_7 := blk_frozen BK131.out 7; have hfz10_8 := blk_frozen BK131.out 8) | (go_at_call 81; (with_reducible refine (ratchetref05_Count.calls k _ _ l0_0 t133 _ ?side1 ?side2 A5.out).mono ?_); (case side1 => repeat (first | exact (Kd.C_below HR0_0.out HB.out) | (with_reducible refine Kd.C_alloc ?_ _) | (with_reducible refine Kd.C_drewN ?_ _) | (with_reducible refine Kd.C_drew ?_))); (case side2 => exact HC0_0.out); rintro e w' ⟨rfl, ⟨nd, rfl⟩⟩; (try first | exact ⟨rfl, _, World.drewN_drewN _ _ _⟩ | exact ⟨rfl, _, Eq.trans (World.drewN_drewN _ _ _) (congrArg (World.drewN _) (Nat.add_assoc _ _ _))⟩))); try go_wp2_with (first | ((with_reducible refine gate_dst (N := 2) rfl ?_); refine box_event ?hg (N := 2) ?hd (cs := #[.slice A0_0 l0_0.length c0_0, .slice A0_1 l0_1.length c0_1, .slice A0_2 l0_2.length c0_2, .slice A0_3 l0_3.length c0_3, .slice A0_4 l0_4.length c0_4, .slice A0_5 l0_5.length c0_5, .slice A0_6 l0_6.length c0_6, .int .i64 a0_7, .slice A0_8 l0_8.length c0_8]) (t := 30) ?hr ?_; (case hd => rfl); (case hg => rfl); (case hr => first | (go_simp; done) | (go_simp; rfl)); intro gb131 hg w6 hbox hb; have n0_ := Aside0.mk (below_step (by repeat (first | (with_reducible first | exact HB.out | apply below_alloc | apply pw_below_drewN | apply below_drew1) | exact HB.out)) hb); have n1_ := Aside0.mk (hbox); have n2_ := Aside0.mk ((by rw [hg]; exact (below_size (by repeat (first | (with_reducible first | exact HB.out | apply below_alloc | apply pw_below_drewN | apply below_drew1) | exact HB.out))) : w.heap.size ≤ gb131)); have n3_ := Aside0.mk ((by rw [hg]; exact (below_size (by repeat (first | (with_reducible first | exact HB.out | apply below_alloc | apply pw_below_drewN | apply below_drew1) | exact HB.out))) : w.heap.size ≤ gb131)); clear HB; have HB := n0_; have BK131 := n1_; have GW131 := n2_; have GE131 := n3_; clear n0_ n1_ n2_ n3_; clear hb hbox hg) | ((with_reducible refine gate_dst (N := 3) rfl ?_); refine box_event ?hg (N := 3) ?hd (cs := #[.int .i64 a1_0, .bool a1_1, .int .i64 a1_2]) (t := 39) ?hr ?_; (case hd => rfl); (case hg => rfl); (case hr => first | (go_simp; done) | (go_simp; rfl)); intro gb132 hg w7 hbox hb; have n0_ := Aside0.mk (blk_below (g := gb131) (o := .cells #[.slice A0_0 l0_0.length c0_0, .slice A0_1 l0_1.length c0_1, .slice A0_2 l0_2.length c0_2, .slice A0_3 l0_3.length c0_3, .slice A0_4 l0_4.length c0_4, .slice A0_5 l0_5.length c0_5, .slice A0_6 l0_6.length c0_6, .int .i64 a0_7, .slice A0_8 l0_8.length c0_8] 30 (0, 0)) (by (with_reducible repeat (first | refine blk_drewN ?_ _ | refine blk_drew ?_ | refine blk_alloc ?_ _)); exact BK131.out) hb); have n1_ := Aside0.mk (below_step (by repeat (first | (with_reducible first | exact HB.out | apply below_alloc | apply pw_below_drewN | apply below_drew1 | refine below_set ?_ GE131.out) | exact HB.out)) hb); have n2_ := Aside0.mk (hbox); have n3_ := Aside0.mk ((by rw [hg]; exact (below_size (by repeat (first | (with_reducible first | exact HB.out | apply below_alloc | apply pw_below_drewN | apply below_drew1 | refine below_set ?_ GE131.out) | exact HB.out))) : w.heap.size ≤ gb132)); have n4_ := Aside0.mk ((by rw [hg]; exact (below_size (by repeat (first | (with_reducible first | exact HB.out | apply below_alloc | apply pw_below_drewN | apply below_drew1 | refine below_set ?_ GE131.out) | exact HB.out))) : w.heap.size ≤ gb132)); have n5_ := Aside0.mk ((by rw [hg]; exact Nat.ne_of_lt (blk_lt (g := gb131) (o := .cells #[.slice A0_0 l0_0.length c0_0, .slice A0_1 l0_1.length c0_1, .slice A0_2 l0_2.length c0_2, .slice A0_3 l0_3.length c0_3, .slice A0_4 l0_4.length c0_4, .slice A0_5 l0_5.length c0_5, .slice A0_6 l0_6.length c0_6, .int .i64 a0_7, .slice A0_8 l0_8.length c0_8] 30 (0, 0)) (by (with_reducible repeat (first | refine blk_drewN ?_ _ | refine blk_drew ?_ | refine blk_alloc ?_ _)); exact BK131.out)) : gb131 ≠ gb132)); have n6_ := Aside0.mk ((by rw [hg]; exact Nat.ne_of_gt (blk_lt (g := gb131) (o := .cells #[.slice A0_0 l0_0.length c0_0, .slice A0_1 l0_1.length c0_1, .slice A0_2 l0_2.length c0_2, .slice A0_3 l0_3.length c0_3, .slice A0_4 l0_4.length c0_4, .slice A0_5 l0_5.length c0_5, .slice A0_6 l0_6.length c0_6, .int .i64 a0_7, .slice A0_8 l0_8.length c0_8] 30 (0, 0)) (by (with_reducible repeat (first | refine blk_drewN ?_ _ | refine blk_drew ?_ | refine blk_alloc ?_ _)); exact BK131.out)) : gb132 ≠ gb131)); clear BK131; clear HB; have BK131 := n0_; have HB := n1_; have BK132 := n2_; have GW132 := n3_; have GE132 := n4_; have NB131_132 := n5_; have NB132_131 := n6_; clear n0_ n1_ n2_ n3_ n4_ n5_ n6_; clear hb hbox hg; have hnb8 := NB132_131.out; have hnc8 := NB131_132.out; have hcz9_0 : w7.cell? ⟨gb132, 0, none⟩ = some (.int .i64 a1_0) := (blk_cell BK132.out 0).trans rfl; have hcz9_1 : w7.cell? ⟨gb132, 1, none⟩ = some (.bool a1_1) := (blk_cell BK132.out 1).trans rfl; have hcz9_2 : w7.cell? ⟨gb132, 2, none⟩ = some (.int .i64 a1_2) := (blk_cell BK132.out 2).trans rfl; have hfz9_0 := blk_frozen BK132.out 0; have hfz9_1 := blk_frozen BK132.out 1; have hfz9_2 := blk_frozen BK132.out 2; have hcz10_0 : w7.cell? ⟨gb131, 0, none⟩ = some (.slice A0_0 l0_0.length c0_0) := (blk_cell BK131.out 0).trans rfl; have hcz10_1 : w7.cell? ⟨gb131, 1, none⟩ = some (.slice A0_1 l0_1.length c0_1) := (blk_cell BK131.out 1).trans rfl; have hcz10_2 : w7.cell? ⟨gb131, 2, none⟩ = some (.slice A0_2 l0_2.length c0_2) := (blk_cell BK131.out 2).trans rfl; have hcz10_3 : w7.cell? ⟨gb131, 3, none⟩ = some (.slice A0_3 l0_3.length c0_3) := (blk_cell BK131.out 3).trans rfl; have hcz10_4 : w7.cell? ⟨gb131, 4, none⟩ = some (.slice A0_4 l0_4.length c0_4) := (blk_cell BK131.out 4).trans rfl; have hcz10_5 : w7.cell? ⟨gb131, 5, none⟩ = some (.slice A0_5 l0_5.length c0_5) := (blk_cell BK131.out 5).trans rfl; have hcz10_6 : w7.cell? ⟨gb131, 6, none⟩ = some (.slice A0_6 l0_6.length c0_6) := (blk_cell BK131.out 6).trans rfl; have hcz10_7 : w7.cell? ⟨gb131, 7, none⟩ = some (.int .i64 a0_7) := (blk_cell BK131.out 7).trans rfl; have hcz10_8 : w7.cell? ⟨gb131, 8, none⟩ = some (.slice A0_8 l0_8.length c0_8) := (blk_cell BK131.out 8).trans rfl; have hfz10_0 := blk_frozen BK131.out 0; have hfz10_1 := blk_frozen BK131.out 1; have hfz10_2 := blk_frozen BK131.out 2; have hfz10_3 := blk_frozen BK131.out 3; have hfz10_4 := blk_frozen BK131.out 4; have hfz10_5 := blk_frozen BK131.out 5; have hfz10_6 := blk_frozen BK131.out 6; have hfz10_7 := blk_frozen BK131.out 7; have hfz10_8 := blk_frozen BK131.out 8) | (go_at_call 81; (with_reducible refine (ratchetref05_Count.calls k _ _ l0_0 t133 _ ?side1 ?side2 A5.out).mono ?_); (case side1 => repeat (first | exact (Kd.C_below HR0_0.out HB.out) | (with_reducible refine Kd.C_alloc ?_ _) | (with_reducible refine Kd.C_drewN ?_ _) | (with_reducible refine Kd.C_drew ?_))); (case side2 => exact HC0_0.out); rintro e w' ⟨rfl, ⟨nd, rfl⟩⟩; (try first | exact ⟨rfl, _, World.drewN_drewN _ _ _⟩ | exact ⟨rfl, _, Eq.trans (World.drewN_drewN _ _ _) (congrArg (World.drewN _) (Nat.add_assoc _ _ _))⟩))))
      go_ret
      exact ⟨by first | rfl | (simp [errW_none, errW_some] <;> rfl) | (simp [*, errW_none, errW_some] <;> rfl), by repeat (first | (with_reducible first | exact HB.out | apply below_alloc | apply pw_below_drewN | apply below_drew1 | refine below_set ?_ GE131.out | refine below_set ?_ GE132.out) | exact HB.out)⟩
    · rw [if_neg c4] at H
      have c4b0 : decide ((-12) ≤ a1_2) = false := decide_eq_false c4
      clear c4
      obtain rfl := Option.some.inj H
      go_enter Tryz.func41, Tryz.ntmps41
      go_wp2_with (first | ((with_reducible refine gate_dst (N := 2) rfl ?_); refine box_event ?hg (N := 2) ?hd (cs := #[.slice A0_0 l0_0.length c0_0, .slice A0_1 l0_1.length c0_1, .slice A0_2 l0_2.length c0_2, .slice A0_3 l0_3.length c0_3, .slice A0_4 l0_4.length c0_4, .slice A0_5 l0_5.length c0_5, .slice A0_6 l0_6.length c0_6, .int .i64 a0_7, .slice A0_8 l0_8.length c0_8]) (t := 30) ?hr ?_; (case hd => rfl); (case hg => rfl); (case hr => first | (go_simp; done) | (go_simp; rfl)); intro gb131 hg w11 hbox hb; have n0_ := Aside0.mk (below_step (by repeat (first | (with_reducible first | exact HB.out | apply below_alloc | apply pw_below_drewN | apply below_drew1) | exact HB.out)) hb); have n1_ := Aside0.mk (hbox); have n2_ := Aside0.mk ((by rw [hg]; exact (below_size (by repeat (first | (with_reducible first | exact HB.out | apply below_alloc | apply pw_below_drewN | apply below_drew1) | exact HB.out))) : w.heap.size ≤ gb131)); have n3_ := Aside0.mk ((by rw [hg]; exact (below_size (by repeat (first | (with_reducible first | exact HB.out | apply below_alloc | apply pw_below_drewN | apply below_drew1) | exact HB.out))) : w.heap.size ≤ gb131)); clear HB; have HB := n0_; have BK131 := n1_; have GW131 := n2_; have GE131 := n3_; clear n0_ n1_ n2_ n3_; clear hb hbox hg) | ((with_reducible refine gate_dst (N := 3) rfl ?_); refine box_event ?hg (N := 3) ?hd (cs := #[.int .i64 a1_0, .bool a1_1, .int .i64 a1_2]) (t := 39) ?hr ?_; (case hd => rfl); (case hg => rfl); (case hr => first | (go_simp; done) | (go_simp; rfl)); intro gb132 hg w12 hbox hb; have n0_ := Aside0.mk (blk_below (g := gb131) (o := .cells #[.slice A0_0 l0_0.length c0_0, .slice A0_1 l0_1.length c0_1, .slice A0_2 l0_2.length c0_2, .slice A0_3 l0_3.length c0_3, .slice A0_4 l0_4.length c0_4, .slice A0_5 l0_5.length c0_5, .slice A0_6 l0_6.length c0_6, .int .i64 a0_7, .slice A0_8 l0_8.length c0_8] 30 (0, 0)) (by (with_reducible repeat (first | refine blk_drewN ?_ _ | refine blk_drew ?_ | refine blk_alloc ?_ _)); exact BK131.out) hb); have n1_ := Aside0.mk (below_step (by repeat (first | (with_reducible first | exact HB.out | apply below_alloc | apply pw_below_drewN | apply below_drew1 | refine below_set ?_ GE131.out) | exact HB.out)) hb); have n2_ := Aside0.mk (hbox); have n3_ := Aside0.mk ((by rw [hg]; exact (below_size (by repeat (first | (with_reducible first | exact HB.out | apply below_alloc | apply pw_below_drewN | apply below_drew1 | refine below_set ?_ GE131.out) | exact HB.out))) : w.heap.size ≤ gb132)); have n4_ := Aside0.mk ((by rw [hg]; exact (below_size (by repeat (first | (with_reducible first | exact HB.out | apply below_alloc | apply pw_below_drewN | apply below_drew1 | refine below_set ?_ GE131.out) | exact HB.out))) : w.heap.size ≤ gb132)); have n5_ := Aside0.mk ((by rw [hg]; exact Nat.ne_of_lt (blk_lt (g := gb131) (o := .cells #[.slice A0_0 l0_0.length c0_0, .slice A0_1 l0_1.length c0_1, .slice A0_2 l0_2.length c0_2, .slice A0_3 l0_3.length c0_3, .slice A0_4 l0_4.length c0_4, .slice A0_5 l0_5.length c0_5, .slice A0_6 l0_6.length c0_6, .int .i64 a0_7, .slice A0_8 l0_8.length c0_8] 30 (0, 0)) (by (with_reducible repeat (first | refine blk_drewN ?_ _ | refine blk_drew ?_ | refine blk_alloc ?_ _)); exact BK131.out)) : gb131 ≠ gb132)); have n6_ := Aside0.mk ((by rw [hg]; exact Nat.ne_of_gt (blk_lt (g := gb131) (o := .cells #[.slice A0_0 l0_0.length c0_0, .slice A0_1 l0_1.length c0_1, .slice A0_2 l0_2.length c0_2, .slice A0_3 l0_3.length c0_3, .slice A0_4 l0_4.length c0_4, .slice A0_5 l0_5.length c0_5, .slice A0_6 l0_6.length c0_6, .int .i64 a0_7, .slice A0_8 l0_8.length c0_8] 30 (0, 0)) (by (with_reducible repeat (first | refine blk_drewN ?_ _ | refine blk_drew ?_ | refine blk_alloc ?_ _)); exact BK131.out)) : gb132 ≠ gb131)); clear BK131; clear HB; have BK131 := n0_; have HB := n1_; have BK132 := n2_; have GW132 := n3_; have GE132 := n4_; have NB131_132 := n5_; have NB132_131 := n6_; clear n0_ n1_ n2_ n3_ n4_ n5_ n6_; clear hb hbox hg; have hnb13 := NB132_131.out; have hnc13 := NB131_132.out; have hcz14_0 : w12.cell? ⟨gb132, 0, none⟩ = some (.int .i64 a1_0) := (blk_cell BK132.out 0).trans rfl; have hcz14_1 : w12.cell? ⟨gb132, 1, none⟩ = some (.bool a1_1) := (blk_cell BK132.out 1).trans rfl; have hcz14_2 : w12.cell? ⟨gb132, 2, none⟩ = some (.int .i64 a1_2) := (blk_cell BK132.out 2).trans rfl; have hfz14_0 := blk_frozen BK132.out 0; have hfz14_1 := blk_frozen BK132.out 1; have hfz14_2 := blk_frozen BK132.out 2))
      repeat (go_quiet (first | ((with_reducible refine gate_dst (N := 2) rfl ?_); refine box_event ?hg (N := 2) ?hd (cs := #[.slice A0_0 l0_0.length c0_0, .slice A0_1 l0_1.length c0_1, .slice A0_2 l0_2.length c0_2, .slice A0_3 l0_3.length c0_3, .slice A0_4 l0_4.length c0_4, .slice A0_5 l0_5.length c0_5, .slice A0_6 l0_6.length c0_6, .int .i64 a0_7, .slice A0_8 l0_8.length c0_8]) (t := 30) ?hr ?_; (case hd => rfl); (case hg => rfl); (case hr => first | (go_simp; done) | (go_simp; rfl)); intro gb131 hg w11 hbox hb; have n0_ := Aside0.mk (below_step (by repeat (first | (with_reducible first | exact HB.out | apply below_alloc | apply pw_below_drewN | apply below_drew1) | exact HB.out)) hb); have n1_ := Aside0.mk (hbox); have n2_ := Aside0.mk ((by rw [hg]; exact (below_size (by repeat (first | (with_reducible first | exact HB.out | apply below_alloc | apply pw_below_drewN | apply below_drew1) | exact HB.out))) : w.heap.size ≤ gb131)); have n3_ := Aside0.mk ((by rw [hg]; exact (below_size (by repeat (first | (with_reducible first | exact HB.out | apply below_alloc | apply pw_below_drewN | apply below_drew1) | exact HB.out))) : w.heap.size ≤ gb131)); clear HB; have HB := n0_; have BK131 := n1_; have GW131 := n2_; have GE131 := n3_; clear n0_ n1_ n2_ n3_; clear hb hbox hg) | ((with_reducible refine gate_dst (N := 3) rfl ?_); refine box_event ?hg (N := 3) ?hd (cs := #[.int .i64 a1_0, .bool a1_1, .int .i64 a1_2]) (t := 39) ?hr ?_; (case hd => rfl); (case hg => rfl); (case hr => first | (go_simp; done) | (go_simp; rfl)); intro gb132 hg w12 hbox hb; have n0_ := Aside0.mk (blk_below (g := gb131) (o := .cells #[.slice A0_0 l0_0.length c0_0, .slice A0_1 l0_1.length c0_1, .slice A0_2 l0_2.length c0_2, .slice A0_3 l0_3.length c0_3, .slice A0_4 l0_4.length c0_4, .slice A0_5 l0_5.length c0_5, .slice A0_6 l0_6.length c0_6, .int .i64 a0_7, .slice A0_8 l0_8.length c0_8] 30 (0, 0)) (by (with_reducible repeat (first | refine blk_drewN ?_ _ | refine blk_drew ?_ | refine blk_alloc ?_ _)); exact BK131.out) hb); have n1_ := Aside0.mk (below_step (by repeat (first | (with_reducible first | exact HB.out | apply below_alloc | apply pw_below_drewN | apply below_drew1 | refine below_set ?_ GE131.out) | exact HB.out)) hb); have n2_ := Aside0.mk (hbox); have n3_ := Aside0.mk ((by rw [hg]; exact (below_size (by repeat (first | (with_reducible first | exact HB.out | apply below_alloc | apply pw_below_drewN | apply below_drew1 | refine below_set ?_ GE131.out) | exact HB.out))) : w.heap.size ≤ gb132)); have n4_ := Aside0.mk ((by rw [hg]; exact (below_size (by repeat (first | (with_reducible first | exact HB.out | apply below_alloc | apply pw_below_drewN | apply below_drew1 | refine below_set ?_ GE131.out) | exact HB.out))) : w.heap.size ≤ gb132)); have n5_ := Aside0.mk ((by rw [hg]; exact Nat.ne_of_lt (blk_lt (g := gb131) (o := .cells #[.slice A0_0 l0_0.length c0_0, .slice A0_1 l0_1.length c0_1, .slice A0_2 l0_2.length c0_2, .slice A0_3 l0_3.length c0_3, .slice A0_4 l0_4.length c0_4, .slice A0_5 l0_5.length c0_5, .slice A0_6 l0_6.length c0_6, .int .i64 a0_7, .slice A0_8 l0_8.length c0_8] 30 (0, 0)) (by (with_reducible repeat (first | refine blk_drewN ?_ _ | refine blk_drew ?_ | refine blk_alloc ?_ _)); exact BK131.out)) : gb131 ≠ gb132)); have n6_ := Aside0.mk ((by rw [hg]; exact Nat.ne_of_gt (blk_lt (g := gb131) (o := .cells #[.slice A0_0 l0_0.length c0_0, .slice A0_1 l0_1.length c0_1, .slice A0_2 l0_2.length c0_2, .slice A0_3 l0_3.length c0_3, .slice A0_4 l0_4.length c0_4, .slice A0_5 l0_5.length c0_5, .slice A0_6 l0_6.length c0_6, .int .i64 a0_7, .slice A0_8 l0_8.length c0_8] 30 (0, 0)) (by (with_reducible repeat (first | refine blk_drewN ?_ _ | refine blk_drew ?_ | refine blk_alloc ?_ _)); exact BK131.out)) : gb132 ≠ gb131)); clear BK131; clear HB; have BK131 := n0_; have HB := n1_; have BK132 := n2_; have GW132 := n3_; have GE132 := n4_; have NB131_132 := n5_; have NB132_131 := n6_; clear n0_ n1_ n2_ n3_ n4_ n5_ n6_; clear hb hbox hg; have hnb13 := NB132_131.out; have hnc13 := NB131_132.out; have hcz14_0 : w12.cell? ⟨gb132, 0, none⟩ = some (.int .i64 a1_0) := (blk_cell BK132.out 0).trans rfl; have hcz14_1 : w12.cell? ⟨gb132, 1, none⟩ = some (.bool a1_1) := (blk_cell BK132.out 1).trans rfl; have hcz14_2 : w12.cell? ⟨gb132, 2, none⟩ = some (.int .i64 a1_2) := (blk_cell BK132.out 2).trans rfl; have hfz14_0 := blk_frozen BK132.out 0; have hfz14_1 := blk_frozen BK132.out 1; have hfz14_2 := blk_frozen BK132.out 2)); try go_wp2_with (first | ((with_reducible refine gate_dst (N := 2) rfl ?_); refine box_event ?hg (N := 2) ?hd (cs := #[.slice A0_0 l0_0.length c0_0, .slice A0_1 l0_1.length c0_1, .slice A0_2 l0_2.length c0_2, .slice A0_3 l0_3.length c0_3, .slice A0_4 l0_4.length c0_4, .slice A0_5 l0_5.length c0_5, .slice A0_6 l0_6.length c0_6, .int .i64 a0_7, .slice A0_8 l0_8.length c0_8]) (t := 30) ?hr ?_; (case hd => rfl); (case hg => rfl); (case hr => first | (go_simp; done) | (go_simp; rfl)); intro gb131 hg w11 hbox hb; have n0_ := Aside0.mk (below_step (by repeat (first | (with_reducible first | exact HB.out | apply below_alloc | apply pw_below_drewN | apply below_drew1) | exact HB.out)) hb); have n1_ := Aside0.mk (hbox); have n2_ := Aside0.mk ((by rw [hg]; exact (below_size (by repeat (first | (with_reducible first | exact HB.out | apply below_alloc | apply pw_below_drewN | apply below_drew1) | exact HB.out))) : w.heap.size ≤ gb131)); have n3_ := Aside0.mk ((by rw [hg]; exact (below_size (by repeat (first | (with_reducible first | exact HB.out | apply below_alloc | apply pw_below_drewN | apply below_drew1) | exact HB.out))) : w.heap.size ≤ gb131)); clear HB; have HB := n0_; have BK131 := n1_; have GW131 := n2_; have GE131 := n3_; clear n0_ n1_ n2_ n3_; clear hb hbox hg) | ((with_reducible refine gate_dst (N := 3) rfl ?_); refine box_event ?hg (N := 3) ?hd (cs := #[.int .i64 a1_0, .bool a1_1, .int .i64 a1_2]) (t := 39) ?hr ?_; (case hd => rfl); (case hg => rfl); (case hr => first | (go_simp; done) | (go_simp; rfl)); intro gb132 hg w12 hbox hb; have n0_ := Aside0.mk (blk_below (g := gb131) (o := .cells #[.slice A0_0 l0_0.length c0_0, .slice A0_1 l0_1.length c0_1, .slice A0_2 l0_2.length c0_2, .slice A0_3 l0_3.length c0_3, .slice A0_4 l0_4.length c0_4, .slice A0_5 l0_5.length c0_5, .slice A0_6 l0_6.length c0_6, .int .i64 a0_7, .slice A0_8 l0_8.length c0_8] 30 (0, 0)) (by (with_reducible repeat (first | refine blk_drewN ?_ _ | refine blk_drew ?_ | refine blk_alloc ?_ _)); exact BK131.out) hb); have n1_ := Aside0.mk (below_step (by repeat (first | (with_reducible first | exact HB.out | apply below_alloc | apply pw_below_drewN | apply below_drew1 | refine below_set ?_ GE131.out) | exact HB.out)) hb); have n2_ := Aside0.mk (hbox); have n3_ := Aside0.mk ((by rw [hg]; exact (below_size (by repeat (first | (with_reducible first | exact HB.out | apply below_alloc | apply pw_below_drewN | apply below_drew1 | refine below_set ?_ GE131.out) | exact HB.out))) : w.heap.size ≤ gb132)); have n4_ := Aside0.mk ((by rw [hg]; exact (below_size (by repeat (first | (with_reducible first | exact HB.out | apply below_alloc | apply pw_below_drewN | apply below_drew1 | refine below_set ?_ GE131.out) | exact HB.out))) : w.heap.size ≤ gb132)); have n5_ := Aside0.mk ((by rw [hg]; exact Nat.ne_of_lt (blk_lt (g := gb131) (o := .cells #[.slice A0_0 l0_0.length c0_0, .slice A0_1 l0_1.length c0_1, .slice A0_2 l0_2.length c0_2, .slice A0_3 l0_3.length c0_3, .slice A0_4 l0_4.length c0_4, .slice A0_5 l0_5.length c0_5, .slice A0_6 l0_6.length c0_6, .int .i64 a0_7, .slice A0_8 l0_8.length c0_8] 30 (0, 0)) (by (with_reducible repeat (first | refine blk_drewN ?_ _ | refine blk_drew ?_ | refine blk_alloc ?_ _)); exact BK131.out)) : gb131 ≠ gb132)); have n6_ := Aside0.mk ((by rw [hg]; exact Nat.ne_of_gt (blk_lt (g := gb131) (o := .cells #[.slice A0_0 l0_0.length c0_0, .slice A0_1 l0_1.length c0_1, .slice A0_2 l0_2.length c0_2, .slice A0_3 l0_3.length c0_3, .slice A0_4 l0_4.length c0_4, .slice A0_5 l0_5.length c0_5, .slice A0_6 l0_6.length c0_6, .int .i64 a0_7, .slice A0_8 l0_8.length c0_8] 30 (0, 0)) (by (with_reducible repeat (first | refine blk_drewN ?_ _ | refine blk_drew ?_ | refine blk_alloc ?_ _)); exact BK131.out)) : gb132 ≠ gb131)); clear BK131; clear HB; have BK131 := n0_; have HB := n1_; have BK132 := n2_; have GW132 := n3_; have GE132 := n4_; have NB131_132 := n5_; have NB132_131 := n6_; clear n0_ n1_ n2_ n3_ n4_ n5_ n6_; clear hb hbox hg; have hnb13 := NB132_131.out; have hnc13 := NB131_132.out; have hcz14_0 : w12.cell? ⟨gb132, 0, none⟩ = some (.int .i64 a1_0) := (blk_cell BK132.out 0).trans rfl; have hcz14_1 : w12.cell? ⟨gb132, 1, none⟩ = some (.bool a1_1) := (blk_cell BK132.out 1).trans rfl; have hcz14_2 : w12.cell? ⟨gb132, 2, none⟩ = some (.int .i64 a1_2) := (blk_cell BK132.out 2).trans rfl; have hfz14_0 := blk_frozen BK132.out 0; have hfz14_1 := blk_frozen BK132.out 1; have hfz14_2 := blk_frozen BK132.out 2)))
      go_ret
      exact ⟨by first | rfl | (simp [errW_none, errW_some] <;> rfl) | (simp [*, errW_none, errW_some] <;> rfl), by repeat (first | (with_reducible first | exact HB.out | apply below_alloc | apply pw_below_drewN | apply below_drew1 | refine below_set ?_ GE131.out | refine below_set ?_ GE132.out) | exact HB.out)⟩
  · rw [if_neg c3] at H
    have c3b0 : (a1_0 == 5) = false := beq_eq_false_iff_ne.mpr c3
    have c3b1 : (a1_0 != 5) = true := bne_iff_ne.mpr c3
    obtain rfl := Option.some.inj H
    go_enter Tryz.func41, Tryz.ntmps41
    go_wp2_with (first | ((with_reducible refine gate_dst (N := 2) rfl ?_); refine box_event ?hg (N := 2) ?hd (cs := #[.slice A0_0 l0_0.length c0_0, .slice A0_1 l0_1.length c0_1, .slice A0_2 l0_2.length c0_2, .slice A0_3 l0_3.length c0_3, .slice A0_4 l0_4.length c0_4, .slice A0_5 l0_5.length c0_5, .slice A0_6 l0_6.length c0_6, .int .i64 a0_7, .slice A0_8 l0_8.length c0_8]) (t := 30) ?hr ?_; (case hd => rfl); (case hg => rfl); (case hr => first | (go_simp; done) | (go_simp; rfl)); intro gb131 hg w15 hbox hb; have n0_ := Aside0.mk (below_step (by repeat (first | (with_reducible first | exact HB.out | apply below_alloc | apply pw_below_drewN | apply below_drew1) | exact HB.out)) hb); have n1_ := Aside0.mk (hbox); have n2_ := Aside0.mk ((by rw [hg]; exact (below_size (by repeat (first | (with_reducible first | exact HB.out | apply below_alloc | apply pw_below_drewN | apply below_drew1) | exact HB.out))) : w.heap.size ≤ gb131)); have n3_ := Aside0.mk ((by rw [hg]; exact (below_size (by repeat (first | (with_reducible first | exact HB.out | apply below_alloc | apply pw_below_drewN | apply below_drew1) | exact HB.out))) : w.heap.size ≤ gb131)); clear HB; have HB := n0_; have BK131 := n1_; have GW131 := n2_; have GE131 := n3_; clear n0_ n1_ n2_ n3_; clear hb hbox hg) | ((with_reducible refine gate_dst (N := 3) rfl ?_); refine box_event ?hg (N := 3) ?hd (cs := #[.int .i64 a1_0, .bool a1_1, .int .i64 a1_2]) (t := 39) ?hr ?_; (case hd => rfl); (case hg => rfl); (case hr => first | (go_simp; done) | (go_simp; rfl)); intro gb132 hg w16 hbox hb; have n0_ := Aside0.mk (blk_below (g := gb131) (o := .cells #[.slice A0_0 l0_0.length c0_0, .slice A0_1 l0_1.length c0_1, .slice A0_2 l0_2.length c0_2, .slice A0_3 l0_3.length c0_3, .slice A0_4 l0_4.length c0_4, .slice A0_5 l0_5.length c0_5, .slice A0_6 l0_6.length c0_6, .int .i64 a0_7, .slice A0_8 l0_8.length c0_8] 30 (0, 0)) (by (with_reducible repeat (first | refine blk_drewN ?_ _ | refine blk_drew ?_ | refine blk_alloc ?_ _)); exact BK131.out) hb); have n1_ := Aside0.mk (below_step (by repeat (first | (with_reducible first | exact HB.out | apply below_alloc | apply pw_below_drewN | apply below_drew1 | refine below_set ?_ GE131.out) | exact HB.out)) hb); have n2_ := Aside0.mk (hbox); have n3_ := Aside0.mk ((by rw [hg]; exact (below_size (by repeat (first | (with_reducible first | exact HB.out | apply below_alloc | apply pw_below_drewN | apply below_drew1 | refine below_set ?_ GE131.out) | exact HB.out))) : w.heap.size ≤ gb132)); have n4_ := Aside0.mk ((by rw [hg]; exact (below_size (by repeat (first | (with_reducible first | exact HB.out | apply below_alloc | apply pw_below_drewN | apply below_drew1 | refine below_set ?_ GE131.out) | exact HB.out))) : w.heap.size ≤ gb132)); have n5_ := Aside0.mk ((by rw [hg]; exact Nat.ne_of_lt (blk_lt (g := gb131) (o := .cells #[.slice A0_0 l0_0.length c0_0, .slice A0_1 l0_1.length c0_1, .slice A0_2 l0_2.length c0_2, .slice A0_3 l0_3.length c0_3, .slice A0_4 l0_4.length c0_4, .slice A0_5 l0_5.length c0_5, .slice A0_6 l0_6.length c0_6, .int .i64 a0_7, .slice A0_8 l0_8.length c0_8] 30 (0, 0)) (by (with_reducible repeat (first | refine blk_drewN ?_ _ | refine blk_drew ?_ | refine blk_alloc ?_ _)); exact BK131.out)) : gb131 ≠ gb132)); have n6_ := Aside0.mk ((by rw [hg]; exact Nat.ne_of_gt (blk_lt (g := gb131) (o := .cells #[.slice A0_0 l0_0.length c0_0, .slice A0_1 l0_1.length c0_1, .slice A0_2 l0_2.length c0_2, .slice A0_3 l0_3.length c0_3, .slice A0_4 l0_4.length c0_4, .slice A0_5 l0_5.length c0_5, .slice A0_6 l0_6.length c0_6, .int .i64 a0_7, .slice A0_8 l0_8.length c0_8] 30 (0, 0)) (by (with_reducible repeat (first | refine blk_drewN ?_ _ | refine blk_drew ?_ | refine blk_alloc ?_ _)); exact BK131.out)) : gb132 ≠ gb131)); clear BK131; clear HB; have BK131 := n0_; have HB := n1_; have BK132 := n2_; have GW132 := n3_; have GE132 := n4_; have NB131_132 := n5_; have NB132_131 := n6_; clear n0_ n1_ n2_ n3_ n4_ n5_ n6_; clear hb hbox hg; have hnb17 := NB132_131.out; have hnc17 := NB131_132.out; have hcz18_0 : w16.cell? ⟨gb132, 0, none⟩ = some (.int .i64 a1_0) := (blk_cell BK132.out 0).trans rfl; have hcz18_1 : w16.cell? ⟨gb132, 1, none⟩ = some (.bool a1_1) := (blk_cell BK132.out 1).trans rfl; have hcz18_2 : w16.cell? ⟨gb132, 2, none⟩ = some (.int .i64 a1_2) := (blk_cell BK132.out 2).trans rfl; have hfz18_0 := blk_frozen BK132.out 0; have hfz18_1 := blk_frozen BK132.out 1; have hfz18_2 := blk_frozen BK132.out 2))
    repeat (go_quiet (first | ((with_reducible refine gate_dst (N := 2) rfl ?_); refine box_event ?hg (N := 2) ?hd (cs := #[.slice A0_0 l0_0.length c0_0, .slice A0_1 l0_1.length c0_1, .slice A0_2 l0_2.length c0_2, .slice A0_3 l0_3.length c0_3, .slice A0_4 l0_4.length c0_4, .slice A0_5 l0_5.length c0_5, .slice A0_6 l0_6.length c0_6, .int .i64 a0_7, .slice A0_8 l0_8.length c0_8]) (t := 30) ?hr ?_; (case hd => rfl); (case hg => rfl); (case hr => first | (go_simp; done) | (go_simp; rfl)); intro gb131 hg w15 hbox hb; have n0_ := Aside0.mk (below_step (by repeat (first | (with_reducible first | exact HB.out | apply below_alloc | apply pw_below_drewN | apply below_drew1) | exact HB.out)) hb); have n1_ := Aside0.mk (hbox); have n2_ := Aside0.mk ((by rw [hg]; exact (below_size (by repeat (first | (with_reducible first | exact HB.out | apply below_alloc | apply pw_below_drewN | apply below_drew1) | exact HB.out))) : w.heap.size ≤ gb131)); have n3_ := Aside0.mk ((by rw [hg]; exact (below_size (by repeat (first | (with_reducible first | exact HB.out | apply below_alloc | apply pw_below_drewN | apply below_drew1) | exact HB.out))) : w.heap.size ≤ gb131)); clear HB; have HB := n0_; have BK131 := n1_; have GW131 := n2_; have GE131 := n3_; clear n0_ n1_ n2_ n3_; clear hb hbox hg) | ((with_reducible refine gate_dst (N := 3) rfl ?_); refine box_event ?hg (N := 3) ?hd (cs := #[.int .i64 a1_0, .bool a1_1, .int .i64 a1_2]) (t := 39) ?hr ?_; (case hd => rfl); (case hg => rfl); (case hr => first | (go_simp; done) | (go_simp; rfl)); intro gb132 hg w16 hbox hb; have n0_ := Aside0.mk (blk_below (g := gb131) (o := .cells #[.slice A0_0 l0_0.length c0_0, .slice A0_1 l0_1.length c0_1, .slice A0_2 l0_2.length c0_2, .slice A0_3 l0_3.length c0_3, .slice A0_4 l0_4.length c0_4, .slice A0_5 l0_5.length c0_5, .slice A0_6 l0_6.length c0_6, .int .i64 a0_7, .slice A0_8 l0_8.length c0_8] 30 (0, 0)) (by (with_reducible repeat (first | refine blk_drewN ?_ _ | refine blk_drew ?_ | refine blk_alloc ?_ _)); exact BK131.out) hb); have n1_ := Aside0.mk (below_step (by repeat (first | (with_reducible first | exact HB.out | apply below_alloc | apply pw_below_drewN | apply below_drew1 | refine below_set ?_ GE131.out) | exact HB.out)) hb); have n2_ := Aside0.mk (hbox); have n3_ := Aside0.mk ((by rw [hg]; exact (below_size (by repeat (first | (with_reducible first | exact HB.out | apply below_alloc | apply pw_below_drewN | apply below_drew1 | refine below_set ?_ GE131.out) | exact HB.out))) : w.heap.size ≤ gb132)); have n4_ := Aside0.mk ((by rw [hg]; exact (below_size (by repeat (first | (with_reducible first | exact HB.out | apply below_alloc | apply pw_below_drewN | apply below_drew1 | refine below_set ?_ GE131.out) | exact HB.out))) : w.heap.size ≤ gb132)); have n5_ := Aside0.mk ((by rw [hg]; exact Nat.ne_of_lt (blk_lt (g := gb131) (o := .cells #[.slice A0_0 l0_0.length c0_0, .slice A0_1 l0_1.length c0_1, .slice A0_2 l0_2.length c0_2, .slice A0_3 l0_3.length c0_3, .slice A0_4 l0_4.length c0_4, .slice A0_5 l0_5.length c0_5, .slice A0_6 l0_6.length c0_6, .int .i64 a0_7, .slice A0_8 l0_8.length c0_8] 30 (0, 0)) (by (with_reducible repeat (first | refine blk_drewN ?_ _ | refine blk_drew ?_ | refine blk_alloc ?_ _)); exact BK131.out)) : gb131 ≠ gb132)); have n6_ := Aside0.mk ((by rw [hg]; exact Nat.ne_of_gt (blk_lt (g := gb131) (o := .cells #[.slice A0_0 l0_0.length c0_0, .slice A0_1 l0_1.length c0_1, .slice A0_2 l0_2.length c0_2, .slice A0_3 l0_3.length c0_3, .slice A0_4 l0_4.length c0_4, .slice A0_5 l0_5.length c0_5, .slice A0_6 l0_6.length c0_6, .int .i64 a0_7, .slice A0_8 l0_8.length c0_8] 30 (0, 0)) (by (with_reducible repeat (first | refine blk_drewN ?_ _ | refine blk_drew ?_ | refine blk_alloc ?_ _)); exact BK131.out)) : gb132 ≠ gb131)); clear BK131; clear HB; have BK131 := n0_; have HB := n1_; have BK132 := n2_; have GW132 := n3_; have GE132 := n4_; have NB131_132 := n5_; have NB132_131 := n6_; clear n0_ n1_ n2_ n3_ n4_ n5_ n6_; clear hb hbox hg; have hnb17 := NB132_131.out; have hnc17 := NB131_132.out; have hcz18_0 : w16.cell? ⟨gb132, 0, none⟩ = some (.int .i64 a1_0) := (blk_cell BK132.out 0).trans rfl; have hcz18_1 : w16.cell? ⟨gb132, 1, none⟩ = some (.bool a1_1) := (blk_cell BK132.out 1).trans rfl; have hcz18_2 : w16.cell? ⟨gb132, 2, none⟩ = some (.int .i64 a1_2) := (blk_cell BK132.out 2).trans rfl; have hfz18_0 := blk_frozen BK132.out 0; have hfz18_1 := blk_frozen BK132.out 1; have hfz18_2 := blk_frozen BK132.out 2)); try go_wp2_with (first | ((with_reducible refine gate_dst (N := 2) rfl ?_); refine box_event ?hg (N := 2) ?hd (cs := #[.slice A0_0 l0_0.length c0_0, .slice A0_1 l0_1.length c0_1, .slice A0_2 l0_2.length c0_2, .slice A0_3 l0_3.length c0_3, .slice A0_4 l0_4.length c0_4, .slice A0_5 l0_5.length c0_5, .slice A0_6 l0_6.length c0_6, .int .i64 a0_7, .slice A0_8 l0_8.length c0_8]) (t := 30) ?hr ?_; (case hd => rfl); (case hg => rfl); (case hr => first | (go_simp; done) | (go_simp; rfl)); intro gb131 hg w15 hbox hb; have n0_ := Aside0.mk (below_step (by repeat (first | (with_reducible first | exact HB.out | apply below_alloc | apply pw_below_drewN | apply below_drew1) | exact HB.out)) hb); have n1_ := Aside0.mk (hbox); have n2_ := Aside0.mk ((by rw [hg]; exact (below_size (by repeat (first | (with_reducible first | exact HB.out | apply below_alloc | apply pw_below_drewN | apply below_drew1) | exact HB.out))) : w.heap.size ≤ gb131)); have n3_ := Aside0.mk ((by rw [hg]; exact (below_size (by repeat (first | (with_reducible first | exact HB.out | apply below_alloc | apply pw_below_drewN | apply below_drew1) | exact HB.out))) : w.heap.size ≤ gb131)); clear HB; have HB := n0_; have BK131 := n1_; have GW131 := n2_; have GE131 := n3_; clear n0_ n1_ n2_ n3_; clear hb hbox hg) | ((with_reducible refine gate_dst (N := 3) rfl ?_); refine box_event ?hg (N := 3) ?hd (cs := #[.int .i64 a1_0, .bool a1_1, .int .i64 a1_2]) (t := 39) ?hr ?_; (case hd => rfl); (case hg => rfl); (case hr => first | (go_simp; done) | (go_simp; rfl)); intro gb132 hg w16 hbox hb; have n0_ := Aside0.mk (blk_below (g := gb131) (o := .cells #[.slice A0_0 l0_0.length c0_0, .slice A0_1 l0_1.length c0_1, .slice A0_2 l0_2.length c0_2, .slice A0_3 l0_3.length c0_3, .slice A0_4 l0_4.length c0_4, .slice A0_5 l0_5.length c0_5, .slice A0_6 l0_6.length c0_6, .int .i64 a0_7, .slice A0_8 l0_8.length c0_8] 30 (0, 0)) (by (with_reducible repeat (first | refine blk_drewN ?_ _ | refine blk_drew ?_ | refine blk_alloc ?_ _)); exact BK131.out) hb); have n1_ := Aside0.mk (below_step (by repeat (first | (with_reducible first | exact HB.out | apply below_alloc | apply pw_below_drewN | apply below_drew1 | refine below_set ?_ GE131.out) | exact HB.out)) hb); have n2_ := Aside0.mk (hbox); have n3_ := Aside0.mk ((by rw [hg]; exact (below_size (by repeat (first | (with_reducible first | exact HB.out | apply below_alloc | apply pw_below_drewN | apply below_drew1 | refine below_set ?_ GE131.out) | exact HB.out))) : w.heap.size ≤ gb132)); have n4_ := Aside0.mk ((by rw [hg]; exact (below_size (by repeat (first | (with_reducible first | exact HB.out | apply below_alloc | apply pw_below_drewN | apply below_drew1 | refine below_set ?_ GE131.out) | exact HB.out))) : w.heap.size ≤ gb132)); have n5_ := Aside0.mk ((by rw [hg]; exact Nat.ne_of_lt (blk_lt (g := gb131) (o := .cells #[.slice A0_0 l0_0.length c0_0, .slice A0_1 l0_1.length c0_1, .slice A0_2 l0_2.length c0_2, .slice A0_3 l0_3.length c0_3, .slice A0_4 l0_4.length c0_4, .slice A0_5 l0_5.length c0_5, .slice A0_6 l0_6.length c0_6, .int .i64 a0_7, .slice A0_8 l0_8.length c0_8] 30 (0, 0)) (by (with_reducible repeat (first | refine blk_drewN ?_ _ | refine blk_drew ?_ | refine blk_alloc ?_ _)); exact BK131.out)) : gb131 ≠ gb132)); have n6_ := Aside0.mk ((by rw [hg]; exact Nat.ne_of_gt (blk_lt (g := gb131) (o := .cells #[.slice A0_0 l0_0.length c0_0, .slice A0_1 l0_1.length c0_1, .slice A0_2 l0_2.length c0_2, .slice A0_3 l0_3.length c0_3, .slice A0_4 l0_4.length c0_4, .slice A0_5 l0_5.length c0_5, .slice A0_6 l0_6.length c0_6, .int .i64 a0_7, .slice A0_8 l0_8.length c0_8] 30 (0, 0)) (by (with_reducible repeat (first | refine blk_drewN ?_ _ | refine blk_drew ?_ | refine blk_alloc ?_ _)); exact BK131.out)) : gb132 ≠ gb131)); clear BK131; clear HB; have BK131 := n0_; have HB := n1_; have BK132 := n2_; have GW132 := n3_; have GE132 := n4_; have NB131_132 := n5_; have NB132_131 := n6_; clear n0_ n1_ n2_ n3_ n4_ n5_ n6_; clear hb hbox hg; have hnb17 := NB132_131.out; have hnc17 := NB131_132.out; have hcz18_0 : w16.cell? ⟨gb132, 0, none⟩ = some (.int .i64 a1_0) := (blk_cell BK132.out 0).trans rfl; have hcz18_1 : w16.cell? ⟨gb132, 1, none⟩ = some (.bool a1_1) := (blk_cell BK132.out 1).trans rfl; have hcz18_2 : w16.cell? ⟨gb132, 2, none⟩ = some (.int .i64 a1_2) := (blk_cell BK132.out 2).trans rfl; have hfz18_0 := blk_frozen BK132.out 0; have hfz18_1 := blk_frozen BK132.out 1; have hfz18_2 := blk_frozen BK132.out 2)))
    go_ret
    exact ⟨by first | rfl | (simp [errW_none, errW_some] <;> rfl) | (simp [*, errW_none, errW_some] <;> rfl), by repeat (first | (with_reducible first | exact HB.out | apply below_alloc | apply pw_below_drewN | apply below_drew1 | refine below_set ?_ GE131.out | refine below_set ?_ GE132.out) | exact HB.out)⟩
end Go.Proofs.YtohlmkcgempdlaaGreatDoor.QD
namespace Go.Proofs.YtohlmkcgempdlaaGreatDoor.QD
open Go.RowKit Go.Proofs.YtohlmkcgempdlaaGreatDoorW.PrintWords Go.Proofs.YtohlmkcgempdlaaGreatDoorW.PrintLast Go.Proofs.YtohlmkcgempdlaaGreatDoorW.PrintMore
attribute [local go_sem] max2_int min2_int max_two min_two max_three min_three max_four min_four 
set_option linter.unusedVariables false
set_option linter.unusedSimpArgs false
theorem eqA39 (d : Nat) (w : World) (x0 y0 : Int) (x1 y1 : Bool) (x2 y2 : Int) :
    (Op.equalIn (d + 2) 39 (.agg #[.int .i64 x0, .bool x1, .int .i64 x2]) (.agg #[.int .i64 y0, .bool y1, .int .i64 y2])).run Tryz.prog w = .ok (x0 == y0 && (x1 == y1 && (x2 == y2))) w := by
  refine eqA_of Tryz.underlying39 (by kernel_rfl) ?_
  refine eqf_cons (by rfl) (by go_simp; rfl) (by go_simp; rfl) (by go_simp) ?_
  refine eqf_cons (by rfl) (by go_simp; rfl) (by go_simp; rfl) (by go_simp) ?_
  exact eqf_last (by rfl) (by go_simp; rfl) (by go_simp; rfl) (by go_simp)
end Go.Proofs.YtohlmkcgempdlaaGreatDoor.QD
namespace Go.Proofs.YtohlmkcgempdlaaGreatDoor.QD
open Go.RowKit Go.Proofs.YtohlmkcgempdlaaGreatDoorW.PrintWords Go.Proofs.YtohlmkcgempdlaaGreatDoorW.PrintLast Go.Proofs.YtohlmkcgempdlaaGreatDoorW.PrintMore
attribute [local go_sem] max2_int min2_int max_two min_two max_three min_three max_four min_four 
set_option linter.unusedVariables false
set_option linter.unusedSimpArgs false
attribute [local go_sem high] eqA39
def ratchetlaw15_same.l0 : Nat → List (S39) → List (S39) → Int → Option (Bool)
  | 0, _, _, _ => none
  | k + 1, x0, x1, x5 => if x5 < (x0.length : Int) then (if 0 ≤ x5 then (if x5 < (x1.length : Int) then (if (!(((rd_T39 x0 x5).f0) == ((rd_T39 x1 x5).f0)) || (!(((rd_T39 x0 x5).f1) == ((rd_T39 x1 x5).f1)) || (!(((rd_T39 x0 x5).f2) == ((rd_T39 x1 x5).f2))))) = true then (some false) else (ratchetlaw15_same.l0 k x0 x1 (wrap64 (x5 + 1)))) else (none)) else (none)) else (some true)
def ratchetlaw15_same.f (k : Nat) (l0 : List (S39)) (l1 : List (S39)) : Option (Bool) := if (l0.length : Int) = (l1.length : Int) then (ratchetlaw15_same.l0 k l0 l1 0) else (some false)
set_option maxHeartbeats 8000000 in
set_option maxRecDepth 100000 in
theorem ratchetlaw15_same.calls (k : Nat) (A0 : Option Addr) (c0 : Nat) (l0 : List (S39)) (A1 : Option Addr) (c1 : Nat) (l1 : List (S39)) (r : Bool) (w : World) (hr0 : Kd.C k39 w A0 l0.length l0) (hc0 : l0.length ≤ c0) (hr1 : Kd.C k39 w A1 l1.length l1) (hc1 : l1.length ≤ c1) (h : ratchetlaw15_same.f k l0 l1 = some r) :
    Calls Tryz.prog 16 #[.slice A0 l0.length c0, .slice A1 l1.length c1] w fun e w' => e = .returned (.bool r) ∧ Drawn0 w w' := by
  have hu39 := Tryz.underlying39
  have HR0 := Aside0.mk hr0
  have HC0 := Aside0.mk hc0
  clear hr0 hc0
  have HR1 := Aside0.mk hr1
  have HC1 := Aside0.mk hc1
  clear hr1 hc1
  have H : (if (l0.length : Int) = (l1.length : Int) then (ratchetlaw15_same.l0 k l0 l1 0) else (some false)) = some r := h
  clear h
  by_cases c3 : (l0.length : Int) = (l1.length : Int)
  · rw [if_pos c3] at H
    have c3b0 : ((l0.length : Int) == (l1.length : Int)) = true := beq_iff_eq.mpr c3
    have c3b1 : ((l0.length : Int) != (l1.length : Int)) = false := bne_eq_false_iff_eq.mpr c3
    have c3b2 : (l0.length == l1.length) = true := by first | simpa using c3 | (simp at c3 ⊢; omega)
    clear c3
    have H' := Aside0.mk H
    clear H
    go_enter Tryz.func16, Tryz.ntmps16
    go_wp2
    repeat (go_quiet (fail); try go_wp2)
    go_loopg [5] k (fun kq v5 w' => ∃ (x5_1 : Int), v5 = .int .i64 x5_1 ∧ Aside0 (ratchetlaw15_same.l0 kq l0 l1 x5_1 = some r) ∧ Aside0 (kq ≤ k) ∧ Drawn0 w w')
    case atStart => exact ⟨(0), (by first | rfl | (simp; done) | (simp [*]; done)), H', ⟨Nat.le_refl _⟩, by repeat (first | exact Drawn0.refl _ | apply Drawn0.step)⟩
    case round =>
      clear H'
      try clear c1
      try clear p2
      try clear c3
      try clear c3b0
      try clear c3b1
      try clear c3b2
      obtain ⟨x5_1, rfl, HA, HK1, ⟨m1, rfl⟩⟩ := hrel
      cases gk with
      | zero => exact absurd HA.out (by simp [ratchetlaw15_same.l0])
      | succ k1 =>
        have H := HA.out
        clear HA
        simp only [ratchetlaw15_same.l0] at H
        by_cases c4 : x5_1 < (l0.length : Int)
        · rw [if_pos c4] at H
          have c4b0 : decide (x5_1 < (l0.length : Int)) = true := decide_eq_true c4
          clear c4
          by_cases c5 : 0 ≤ x5_1
          · rw [if_pos c5] at H
            have c5b0 : decide (0 ≤ x5_1) = true := decide_eq_true c5
            clear c5
            by_cases c6 : x5_1 < (l1.length : Int)
            · rw [if_pos c6] at H
              have c6b0 : decide (x5_1 < (l1.length : Int)) = true := decide_eq_true c6
              clear c6
              by_cases c7 : (!(((rd_T39 l0 x5_1).f0) == ((rd_T39 l1 x5_1).f0)) || (!(((rd_T39 l0 x5_1).f1) == ((rd_T39 l1 x5_1).f1)) || (!(((rd_T39 l0 x5_1).f2) == ((rd_T39 l1 x5_1).f2))))) = true
              · rw [if_pos c7] at H
                have c7b0 : (!(((rd_T39 l0 x5_1).f0) == ((rd_T39 l1 x5_1).f0)) || (!(((rd_T39 l0 x5_1).f1) == ((rd_T39 l1 x5_1).f1)) || (!(((rd_T39 l0 x5_1).f2) == ((rd_T39 l1 x5_1).f2))))) = true := c7
                clear c7
                obtain rfl := Option.some.inj H
                have p147 : 0 ≤ (x5_1 : Int) := of_decide_eq_true (by first | (with_reducible assumption) | assumption)
                have q147 : x5_1 < (l0.length : Int) := of_decide_eq_true (by first | (with_reducible assumption) | assumption)
                obtain ⟨ad147, e147, hx147_0, hx147_1, hx147_2⟩ := at_T39 HR0.out x5_1 p147 q147
                cases e147
                replace p147 := eq_true p147
                replace q147 := eq_true q147
                have p148 : 0 ≤ (x5_1 : Int) := of_decide_eq_true (by first | (with_reducible assumption) | assumption)
                have q148 : x5_1 < (l1.length : Int) := of_decide_eq_true (by first | (with_reducible assumption) | assumption)
                obtain ⟨ad148, e148, hx148_0, hx148_1, hx148_2⟩ := at_T39 HR1.out x5_1 p148 q148
                cases e148
                replace p148 := eq_true p148
                replace q148 := eq_true q148
                go_wp2
                repeat (go_quiet (fail); try go_wp2)
                go_ret
                exact ⟨by first | rfl | (simp; done) | (simp [*]; done), by repeat (first | exact Drawn0.refl _ | apply Drawn0.step)⟩
              · rw [if_neg c7] at H
                have c7b0 : (!(((rd_T39 l0 x5_1).f0) == ((rd_T39 l1 x5_1).f0)) || (!(((rd_T39 l0 x5_1).f1) == ((rd_T39 l1 x5_1).f1)) || (!(((rd_T39 l0 x5_1).f2) == ((rd_T39 l1 x5_1).f2))))) = false := by simpa using c7
                clear c7
                have H' := Aside0.mk H
                clear H
                have p147 : 0 ≤ (x5_1 : Int) := of_decide_eq_true (by first | (with_reducible assumption) | assumption)
                have q147 : x5_1 < (l0.length : Int) := of_decide_eq_true (by first | (with_reducible assumption) | assumption)
                obtain ⟨ad147, e147, hx147_0, hx147_1, hx147_2⟩ := at_T39 HR0.out x5_1 p147 q147
                cases e147
                replace p147 := eq_true p147
                replace q147 := eq_true q147
                have p148 : 0 ≤ (x5_1 : Int) := of_decide_eq_true (by first | (with_reducible assumption) | assumption)
                have q148 : x5_1 < (l1.length : Int) := of_decide_eq_true (by first | (with_reducible assumption) | assumption)
                obtain ⟨ad148, e148, hx148_0, hx148_1, hx148_2⟩ := at_T39 HR1.out x5_1 p148 q148
                cases e148
                replace p148 := eq_true p148
                replace q148 := eq_true q148
                go_wp2
                repeat (go_quiet (fail); try go_wp2)
                go_roundg k1
                case measure => have := HK1.out; omega
                case rel => exact ⟨(wrap64 (x5_1 + 1)), (by first | rfl | (simp; done) | (simp [*]; done)), H', ⟨by have := HK1.out; omega⟩, by repeat (first | exact Drawn0.refl _ | apply Drawn0.step)⟩
            · rw [if_neg c6] at H
              exact absurd H (by simp)
          · rw [if_neg c5] at H
            exact absurd H (by simp)
        · rw [if_neg c4] at H
          have c4b0 : decide (x5_1 < (l0.length : Int)) = false := decide_eq_false c4
          clear c4
          obtain rfl := Option.some.inj H
          go_wp2
          repeat (go_quiet (fail); try go_wp2)
          go_ret
          exact ⟨by first | rfl | (simp; done) | (simp [*]; done), by repeat (first | exact Drawn0.refl _ | apply Drawn0.step)⟩
  · rw [if_neg c3] at H
    have c3b0 : ((l0.length : Int) == (l1.length : Int)) = false := beq_eq_false_iff_ne.mpr c3
    have c3b1 : ((l0.length : Int) != (l1.length : Int)) = true := bne_iff_ne.mpr c3
    have c3b2 : (l0.length == l1.length) = false := by first | simpa using c3 | (simp at c3 ⊢; omega)
    obtain rfl := Option.some.inj H
    go_enter Tryz.func16, Tryz.ntmps16
    go_wp2
    repeat (go_quiet (fail); try go_wp2)
    go_ret
    exact ⟨by first | rfl | (simp; done) | (simp [*]; done), by repeat (first | exact Drawn0.refl _ | apply Drawn0.step)⟩
def types_Count.l0 : Nat → Int → List (S132) → Int → Int → Option (Int)
  | 0, _, _, _, _ => none
  | k + 1, x3, x6, x7, x8 => if x8 < x7 then (if 0 ≤ x8 then (if x8 < (x6.length : Int) then (types_Count.l0 k (wrap64 (x3 + (((rd_T132 x6 x8).f0).length : Int))) x6 x7 (wrap64 (x8 + 1))) else (none)) else (none)) else (some x3)
def types_Count.f (k : Nat) (l0 : List (S132)) : Option (Int) := types_Count.l0 k 0 l0 (l0.length : Int) 0
set_option maxHeartbeats 8000000 in
set_option maxRecDepth 100000 in
theorem types_Count.calls (k : Nat) (A0 : Option Addr) (c0 : Nat) (l0 : List (S132)) (r : Int) (w : World) (hr0 : Kd.C k132 w A0 l0.length l0) (hc0 : l0.length ≤ c0) (h : types_Count.f k l0 = some r) :
    Calls Tryz.prog 60 #[.slice A0 l0.length c0] w fun e w' => e = .returned (.int .i64 r) ∧ Below w.heap.size w w' := by
  have hu132 := Tryz.underlying132
  have HR0 := Aside0.mk hr0
  have HC0 := Aside0.mk hc0
  clear hr0 hc0
  have HB := Aside0.mk (Below.refl w.heap.size w)
  have H : (types_Count.l0 k 0 l0 (l0.length : Int) 0) = some r := h
  clear h
  have H' := Aside0.mk H
  clear H
  go_enter Tryz.func60, Tryz.ntmps60
  go_wp2
  go_loopg [3, 8] k (fun kq v3 v8 w' => ∃ (x3_1 : Int) (x8_1 : Int), v3 = .int .i64 x3_1 ∧ v8 = .int .i64 x8_1 ∧ Aside0 (types_Count.l0 kq x3_1 l0 (l0.length : Int) x8_1 = some r) ∧ Aside0 (kq ≤ k) ∧ Aside0 (Below w.heap.size w w'))
  case atStart => exact ⟨(0), (0), (by first | rfl | (simp; done) | (simp [*]; done)), (by first | rfl | (simp; done) | (simp [*]; done)), H', ⟨Nat.le_refl _⟩, ⟨by repeat (first | (with_reducible first | exact HB.out | apply below_alloc | apply pw_below_drewN | apply below_drew1) | exact HB.out)⟩⟩
  case round =>
    clear H'
    obtain ⟨x3_1, x8_1, rfl, rfl, HA, HK1, HB⟩ := hrel
    cases gk with
    | zero => exact absurd HA.out (by simp [types_Count.l0])
    | succ k1 =>
      have H := HA.out
      clear HA
      simp only [types_Count.l0] at H
      by_cases c2 : x8_1 < (l0.length : Int)
      · rw [if_pos c2] at H
        have c2b0 : decide (x8_1 < (l0.length : Int)) = true := decide_eq_true c2
        clear c2
        by_cases c3 : 0 ≤ x8_1
        · rw [if_pos c3] at H
          have c3b0 : decide (0 ≤ x8_1) = true := decide_eq_true c3
          clear c3
          by_cases c4 : x8_1 < (l0.length : Int)
          · rw [if_pos c4] at H
            have c4b0 : decide (x8_1 < (l0.length : Int)) = true := decide_eq_true c4
            clear c4
            have H' := Aside0.mk H
            clear H
            have p149 : 0 ≤ (x8_1 : Int) := of_decide_eq_true (by first | (with_reducible assumption) | assumption)
            have q149 : x8_1 < (l0.length : Int) := of_decide_eq_true (by first | (with_reducible assumption) | assumption)
            obtain ⟨ad149, A149_0, c149_0, e149, hx149_0, hx149_1, hl149_0, hi149_0⟩ := at_T132 HR0.out x8_1 p149 q149
            cases e149
            replace hx149_0 := (HB.out.cell (World.block_lt_of_cell? w _ hx149_0)).trans hx149_0
            replace hx149_1 := (HB.out.cell (World.block_lt_of_cell? w _ hx149_1)).trans hx149_1
            have HR149_0 := Aside0.mk hi149_0
            have HC149_0 := Aside0.mk hl149_0
            clear hi149_0 hl149_0
            replace p149 := eq_true p149
            replace q149 := eq_true q149
            go_wp2_with (first | ((with_reducible refine gate_dst (N := 5) rfl ?_); refine box_event ?hg (N := 5) ?hd (cs := #[.slice none 0 0, .bool false]) (t := 132) ?hr ?_; (case hd => rfl); (case hg => rfl); (case hr => first | (go_simp; done) | (go_simp; rfl)); intro gb150 hg w5 hbox hb; have n0_ := Aside0.mk (below_step (by repeat (first | (with_reducible first | exact HB.out | apply below_alloc | apply pw_below_drewN | apply below_drew1) | exact HB.out)) hb); have n1_ := Aside0.mk (hbox); have n2_ := Aside0.mk ((by rw [hg]; exact (below_size (by repeat (first | (with_reducible first | exact HB.out | apply below_alloc | apply pw_below_drewN | apply below_drew1) | exact HB.out))) : w.heap.size ≤ gb150)); have n3_ := Aside0.mk ((by rw [hg]; exact (below_size (by repeat (first | (with_reducible first | exact HB.out | apply below_alloc | apply pw_below_drewN | apply below_drew1) | exact HB.out))) : w.heap.size ≤ gb150)); clear HB; have HB := n0_; have BK150 := n1_; have GW150 := n2_; have GE150 := n3_; clear n0_ n1_ n2_ n3_; clear hb hbox hg; have hcz6_0 : w5.cell? ⟨gb150, 0, none⟩ = some (.slice none 0 0) := (blk_cell BK150.out 0).trans rfl; have hcz6_1 : w5.cell? ⟨gb150, 1, none⟩ = some (.bool false) := (blk_cell BK150.out 1).trans rfl; have hfz6_0 := blk_frozen BK150.out 0; have hfz6_1 := blk_frozen BK150.out 1))
            go_roundg k1
            case measure => have := HK1.out; omega
            case rel => exact ⟨(wrap64 (x3_1 + (((rd_T132 l0 x8_1).f0).length : Int))), (wrap64 (x8_1 + 1)), (by first | rfl | (simp; done) | (simp [*]; done)), (by first | rfl | (simp; done) | (simp [*]; done)), H', ⟨by have := HK1.out; omega⟩, ⟨by repeat (first | (with_reducible first | exact HB.out | apply below_alloc | apply pw_below_drewN | apply below_drew1 | refine below_set ?_ GE150.out) | exact HB.out)⟩⟩
          · rw [if_neg c4] at H
            exact absurd H (by simp)
        · rw [if_neg c3] at H
          exact absurd H (by simp)
      · rw [if_neg c2] at H
        have c2b0 : decide (x8_1 < (l0.length : Int)) = false := decide_eq_false c2
        clear c2
        obtain rfl := Option.some.inj H
        go_wp2
        go_ret
        exact ⟨by first | rfl | (simp [errW_none, errW_some] <;> rfl) | (simp [*, errW_none, errW_some] <;> rfl), by repeat (first | (with_reducible first | exact HB.out | apply below_alloc | apply pw_below_drewN | apply below_drew1) | exact HB.out)⟩
end Go.Proofs.YtohlmkcgempdlaaGreatDoor.QD
