/- parts.copied, walked. (Printed by wip/gen_copied.py.) -/
import Derived.Test.YtfgglniigeagdaaDoorCp
import Derived.LoopTactic
namespace Go.Proofs.YtfgglniigeagdaaDoor.Cn
set_option linter.unusedSimpArgs false
set_option linter.unusedVariables false
open Go.RowKit Go.Maps Go.Proofs.YtfgglniigeagdaaDoorW.PrintWords Go.Proofs.YtfgglniigeagdaaDoorW.PrintLast Go.Proofs.YtfgglniigeagdaaDoorW.PrintMore Go.Proofs.YtfgglniigeagdaaDoor.QD
set_option maxRecDepth 100000 in
set_option maxHeartbeats 4000000 in
theorem copied_calls (B g b : Nat) (t : TypeId) (rest : List Value) (gs : List (List S53)) (v : Value) (D : DataW Unit) (w : World) (hT : TB B g t rest (fun _ => True) gs v b D w) (hB : B ≤ w.heap.size) (hg0 : gs.length ≤ 1099511627776) :
    Calls Tryd.prog 44 #[.pointer (some ⟨g, 0, none⟩)] w fun e w' => ∃ (v' : Value) (bm : Nat), e = .returned (.agg #[v', .map (some bm), .int .i64 (manyOf gs)]) ∧ Kd.R kFam 93 w' B (fun _ => True) v' (famsFrom 0 gs) ∧ w'.ownsMap Tryd.prog 9 (plainElem (H := Unit) Tryd.prog 3) bm gs.length D ∧ w.heap.size ≤ bm ∧ Below w.heap.size w w' := by
  have hmm := @run_makeMap Tryd.prog
  obtain ⟨Av, cv, hv, hcv, hCv⟩ := Kd.R_reads hT.row
  subst hv
  obtain ⟨ll, hll⟩ : ∃ ll : List (Int × List S53), ll = famsFrom 0 gs := ⟨_, rfl⟩
  have hlen : ll.length = gs.length := by rw [hll, famsFrom_length]
  rw [← hll] at hcv hCv
  obtain ⟨mg, hmg⟩ : ∃ mg : Int, mg = manyOf gs := ⟨_, rfl⟩
  obtain ⟨c0, c1, c2⟩ := cells3 hT.box
  rw [← hll] at c0
  rw [← hmg] at c2 ⊢
  rw [← hll]
  have HROW : Aside0 (Kd.R kFam 93 w B (fun _ => True) (.slice Av ll.length cv) ll) := ⟨by have h_ := hT.row; rw [← hll] at h_; exact h_⟩
  have HMAP := Aside0.mk hT.map
  have HB := Aside0.mk hB
  have HGL := Aside0.mk hg0
  have HLEN := Aside0.mk hlen
  have QQ := Aside0.mk (And.intro c0 c2)
  have Q1 := Aside0.mk c1
  have HLT : Aside0 (g < w.heap.size) := ⟨blk_lt hT.box⟩
  clear hT hB hg0 hcv hCv hll hmg hlen c0 c1 c2
  go_enter Tryd.func44, Tryd.ntmps44
  go_wp2_with fail
  have C0 : Aside0 (Below w.heap.size w (World.drew (w.alloc (.cells #[.slice none 0 0, .map none, .int .i64 0] 45)))) := ⟨((Below.refl w.heap.size w).alloc (Nat.le_refl _) (.cells #[.slice none 0 0, .map none, .int .i64 0] 45)).trans ⟨rfl, rfl, rfl, Nat.le_refl _, fun _ _ => rfl⟩⟩
  have R0 : Aside0 ((World.drew (w.alloc (.cells #[.slice none 0 0, .map none, .int .i64 0] 45))).heap[w.heap.size]? = some (.cells #[.slice none 0 0, .map none, .int .i64 0] 45 (0, 0))) := ⟨blk_new w _⟩
  refine start_ (n := 13) (S := fun w' => w'.cell? ⟨g, 0, none⟩ = some (.slice Av ll.length cv) ∧ w'.cell? ⟨g, 2, none⟩ = some (.int .i64 mg)) (ds := [12]) #[false, false, false, false, false, false, false, false, false, false, false, false, false] (by kernel_rfl) rfl rfl ⟨(C0.out.cell HLT.out).trans QQ.out.1, (C0.out.cell HLT.out).trans QQ.out.2⟩ (fun hHeld => ?_)
  generalize World.drew _ = w5 at C0 R0 hHeld ⊢
  have QA : Aside0 (w5.cell? ⟨g, 0, none⟩ = some (.slice Av ll.length cv) ∧ w5.cell? ⟨g, 2, none⟩ = some (.int .i64 mg)) := ⟨(C0.out.cell HLT.out).trans QQ.out.1, (C0.out.cell HLT.out).trans QQ.out.2⟩
  have HROW5 := Aside0.mk (Kd.R_below HROW.out C0.out)
  have HB5 : Aside0 (B ≤ w5.heap.size) := ⟨Nat.le_trans HB.out C0.out.size⟩
  have G0 := Aside0.mk (CG.start w5 B ll)
  refine pure_ (i := 0) (N := some 6) (v := ?_) (a' := ?_) #[true, false, false, false, false, false, false, false, false, false, false, false, false] rfl rfl (by kernel_rfl) (fun _ _ _ h => h) (Or.inl ⟨by rfl, ?_⟩) ?_ ?_
  rotate_left
  · intro w'
    go_simp
    with_reducible rfl
  rotate_left
  · simp only [Act.put, List.setIfInBounds_toArray, List.set_cons_zero, List.set_cons_succ, i64_w, i32_w]
    rfl
  refine pure_ (i := 1) (N := some 7) (v := ?_) (a' := ?_) #[true, true, false, false, false, false, false, false, false, false, false, false, false] rfl rfl (by kernel_rfl) (fun _ _ _ h => h) (Or.inl ⟨by rfl, ?_⟩) ?_ ?_
  rotate_left
  · intro w'
    go_simp
    with_reducible rfl
  rotate_left
  · simp only [Act.put, List.setIfInBounds_toArray, List.set_cons_zero, List.set_cons_succ, i64_w, i32_w]
    rfl
  refine pure_ (i := 2) (N := some 8) (v := ?_) (a' := ?_) #[true, true, true, false, false, false, false, false, false, false, false, false, false] rfl rfl (by kernel_rfl) (fun _ _ _ h => h) (Or.inl ⟨by rfl, ?_⟩) ?_ ?_
  rotate_left
  · intro w'
    go_simp
    with_reducible rfl
  rotate_left
  · simp only [Act.put, List.setIfInBounds_toArray, List.set_cons_zero, List.set_cons_succ, i64_w, i32_w]
    rfl
  refine pure_ (i := 6) (N := some 12) (v := ?_) (a' := ?_) #[true, true, true, false, false, false, true, false, false, false, false, false, false] rfl rfl (by kernel_rfl) (fun _ _ _ h => h) (Or.inl ⟨by rfl, ?_⟩) ?_ ?_
  rotate_left
  · intro w'
    go_simp
    with_reducible rfl
  rotate_left
  · simp only [Act.put, List.setIfInBounds_toArray, List.set_cons_zero, List.set_cons_succ, i64_w, i32_w]
    rfl
  refine pure_ (i := 7) (N := some 13) (v := ?_) (a' := ?_) #[true, true, true, false, false, false, true, true, false, false, false, false, false] rfl rfl (by kernel_rfl) (fun _ _ _ h => h) (Or.inl ⟨by rfl, ?_⟩) ?_ ?_
  rotate_left
  · intro w'
    go_simp
    with_reducible rfl
  rotate_left
  · simp only [Act.put, List.setIfInBounds_toArray, List.set_cons_zero, List.set_cons_succ, i64_w, i32_w]
    rfl
  refine pure_ (i := 8) (N := some 14) (v := ?_) (a' := ?_) #[true, true, true, false, false, false, true, true, true, false, false, false, false] rfl rfl (by kernel_rfl) (fun _ _ _ h => h) (Or.inl ⟨by rfl, ?_⟩) ?_ ?_
  rotate_left
  · intro w'
    go_simp
    with_reducible rfl
  rotate_left
  · simp only [Act.put, List.setIfInBounds_toArray, List.set_cons_zero, List.set_cons_succ, i64_w, i32_w]
    rfl
  refine take_ (i := 3) (N := some 9) (v := ?_) (a' := ?_) #[true, true, true, true, false, false, true, true, true, false, false, false, false] rfl rfl (by kernel_rfl) (fun _ _ _ h => h) (Or.inl ⟨by rfl, ?_⟩) hHeld ?_ ?_
  rotate_left
  · rintro w' ⟨s0, s1⟩
    go_simp
    with_reducible rfl
  rotate_left
  · simp only [Act.put, List.setIfInBounds_toArray, List.set_cons_zero, List.set_cons_succ, i64_w, i32_w]
    rfl
  refine take_ (i := 9) (N := some 15) (v := ?_) (a' := ?_) #[true, true, true, true, false, false, true, true, true, true, false, false, false] rfl rfl (by kernel_rfl) (fun _ _ _ h => h) (Or.inl ⟨by rfl, ?_⟩) hHeld ?_ ?_
  rotate_left
  · rintro w' ⟨s0, s1⟩
    go_simp
    with_reducible rfl
  rotate_left
  · simp only [Act.put, List.setIfInBounds_toArray, List.set_cons_zero, List.set_cons_succ, i64_w, i32_w]
    rfl
  refine join_ (σ := Value × Value × Value) 1 #[true, true, true, true, true, true, true, true, true, true, true, true, false] (fun s_ => [(10, s_.1), (11, s_.2.1), (3, s_.2.2), (16, .agg #[s_.1, s_.2.1, .int .i64 mg])]) (fun s_ w' => CG w5 B ll (some s_.1) (some s_.2.1) (some s_.2.2) w') ?_ ?_
  rotate_left
  · intro hCont
    refine three_ (i := 4) (j := 5) (k := 11) (Ni := some 10) (Nj := some 11) (Nk := some 3) #[true, true, true, true, true, false, true, true, true, true, false, false, false] #[true, true, true, true, false, true, true, true, true, true, false, false, false] #[true, true, true, true, false, false, true, true, true, true, false, true, false] rfl rfl rfl rfl rfl rfl (by kernel_rfl) (by decide) (by decide) (by decide) (fun K hK => ?_) (fun K hK => ?_) (fun K hK => ?_)
    · skip
      refine copy_step G0.out HROW5.out HB5.out (by rfl) (s := .const (.slice none 0 0)) (x := .tmp 9) rfl rfl rfl (by rw [HLEN.out]; have := HGL.out; omega) ?_
      intro v5 w8 hG8
      obtain ⟨A5, c5, e5⟩ := Kd.R_slice (hG8.row _ rfl)
      subst e5
      have G4 := Aside0.mk hG8
      clear hG8
      refine hK.out _ _ ⟨G4.out.cell QA.out.1, G4.out.cell QA.out.2⟩ (fun hHeld => ?_)
      clear hK K
      refine norm_ (a' := ?_) ?_ ?_
      rotate_left
      · show Act.put _ (some 10) _ = _
        simp only [Act.put, List.setIfInBounds_toArray, List.set_cons_zero, List.set_cons_succ, i64_w, i32_w]
        rfl
      refine two_ (i := 5) (j := 11) (Ni := some 11) (Nj := some 3) #[true, true, true, true, true, true, true, true, true, true, false, false, false] #[true, true, true, true, true, false, true, true, true, true, false, true, false] rfl rfl rfl rfl (by kernel_rfl) (by decide) (by decide) (fun K hK => ?_) (fun K hK => ?_)
      · skip
        refine value_ (w1 := ?_) (v := ?_) (by rfl) rfl ?_ ?_
        rotate_left 2
        · go_simp
          constructor
          · rfl
          · rfl
        have G4_5 := Aside0.mk G4.out.mm
        try simp only [World.size_alloc] at G4_5
        refine hK.out _ _ ⟨G4_5.out.cell QA.out.1, G4_5.out.cell QA.out.2⟩ (fun hHeld => ?_)
        clear hK K
        refine norm_ (a' := ?_) ?_ ?_
        rotate_left
        · show Act.put _ (some 11) _ = _
          simp only [Act.put, List.setIfInBounds_toArray, List.set_cons_zero, List.set_cons_succ, i64_w, i32_w]
          rfl
        refine pure_ (i := 10) (N := some 16) (v := ?_) (a' := ?_) #[true, true, true, true, true, true, true, true, true, true, true, false, false] rfl rfl (by kernel_rfl) (fun _ _ _ h => h) (Or.inl ⟨by rfl, ?_⟩) ?_ ?_
        rotate_left
        · intro w'
          go_simp
          with_reducible rfl
        rotate_left
        · simp only [Act.put, List.setIfInBounds_toArray, List.set_cons_zero, List.set_cons_succ, i64_w, i32_w]
          rfl
        refine one_ (i := 11) (N := some 3) #[true, true, true, true, true, true, true, true, true, true, true, true, false] rfl rfl (by kernel_rfl) (by decide) (fun K hK => ?_)
        refine value_ (w1 := ?_) (v := ?_) (by rfl) rfl ?_ ?_
        rotate_left 2
        · go_simp
          constructor
          · rfl
          · rfl
        have G4_5_11 := Aside0.mk G4_5.out.al
        try simp only [World.size_alloc] at G4_5_11
        refine hK.out _ _ ⟨G4_5_11.out.cell QA.out.1, G4_5_11.out.cell QA.out.2⟩ (fun hHeld => ?_)
        clear hK K
        refine norm_ (a' := ?_) ?_ ?_
        rotate_left
        · show Act.put _ (some 3) _ = _
          simp only [Act.put, List.setIfInBounds_toArray, List.set_cons_zero, List.set_cons_succ, i64_w, i32_w]
          rfl
        exact norm_ (by simp only [putAll, Act.put, List.setIfInBounds_toArray, List.set_cons_zero, List.set_cons_succ]) (hCont (_, _, _) _ G4_5_11.out)
      · skip
        refine value_ (w1 := ?_) (v := ?_) (by rfl) rfl ?_ ?_
        rotate_left 2
        · go_simp
          constructor
          · rfl
          · rfl
        have G4_11 := Aside0.mk G4.out.al
        try simp only [World.size_alloc] at G4_11
        refine hK.out _ _ ⟨G4_11.out.cell QA.out.1, G4_11.out.cell QA.out.2⟩ (fun hHeld => ?_)
        clear hK K
        refine norm_ (a' := ?_) ?_ ?_
        rotate_left
        · show Act.put _ (some 3) _ = _
          simp only [Act.put, List.setIfInBounds_toArray, List.set_cons_zero, List.set_cons_succ, i64_w, i32_w]
          rfl
        refine one_ (i := 5) (N := some 11) #[true, true, true, true, true, true, true, true, true, true, false, true, false] rfl rfl (by kernel_rfl) (by decide) (fun K hK => ?_)
        refine value_ (w1 := ?_) (v := ?_) (by rfl) rfl ?_ ?_
        rotate_left 2
        · go_simp
          constructor
          · rfl
          · rfl
        have G4_11_5 := Aside0.mk G4_11.out.mm
        try simp only [World.size_alloc] at G4_11_5
        refine hK.out _ _ ⟨G4_11_5.out.cell QA.out.1, G4_11_5.out.cell QA.out.2⟩ (fun hHeld => ?_)
        clear hK K
        refine norm_ (a' := ?_) ?_ ?_
        rotate_left
        · show Act.put _ (some 11) _ = _
          simp only [Act.put, List.setIfInBounds_toArray, List.set_cons_zero, List.set_cons_succ, i64_w, i32_w]
          rfl
        refine pure_ (i := 10) (N := some 16) (v := ?_) (a' := ?_) #[true, true, true, true, true, true, true, true, true, true, true, true, false] rfl rfl (by kernel_rfl) (fun _ _ _ h => h) (Or.inl ⟨by rfl, ?_⟩) ?_ ?_
        rotate_left
        · intro w'
          go_simp
          with_reducible rfl
        rotate_left
        · simp only [Act.put, List.setIfInBounds_toArray, List.set_cons_zero, List.set_cons_succ, i64_w, i32_w]
          rfl
        exact norm_ (by simp only [putAll, Act.put, List.setIfInBounds_toArray, List.set_cons_zero, List.set_cons_succ]) (hCont (_, _, _) _ G4_11_5.out)
    · skip
      refine value_ (w1 := ?_) (v := ?_) (by rfl) rfl ?_ ?_
      rotate_left 2
      · go_simp
        constructor
        · rfl
        · rfl
      have G5 := Aside0.mk G0.out.mm
      try simp only [World.size_alloc] at G5
      refine hK.out _ _ ⟨G5.out.cell QA.out.1, G5.out.cell QA.out.2⟩ (fun hHeld => ?_)
      clear hK K
      refine norm_ (a' := ?_) ?_ ?_
      rotate_left
      · show Act.put _ (some 11) _ = _
        simp only [Act.put, List.setIfInBounds_toArray, List.set_cons_zero, List.set_cons_succ, i64_w, i32_w]
        rfl
      refine two_ (i := 4) (j := 11) (Ni := some 10) (Nj := some 3) #[true, true, true, true, true, true, true, true, true, true, false, false, false] #[true, true, true, true, false, true, true, true, true, true, false, true, false] rfl rfl rfl rfl (by kernel_rfl) (by decide) (by decide) (fun K hK => ?_) (fun K hK => ?_)
      · skip
        refine copy_step G5.out HROW5.out HB5.out (by rfl) (s := .const (.slice none 0 0)) (x := .tmp 9) rfl rfl rfl (by rw [HLEN.out]; have := HGL.out; omega) ?_
        intro v5 w8 hG8
        obtain ⟨A5, c5, e5⟩ := Kd.R_slice (hG8.row _ rfl)
        subst e5
        have G5_4 := Aside0.mk hG8
        clear hG8
        refine hK.out _ _ ⟨G5_4.out.cell QA.out.1, G5_4.out.cell QA.out.2⟩ (fun hHeld => ?_)
        clear hK K
        refine norm_ (a' := ?_) ?_ ?_
        rotate_left
        · show Act.put _ (some 10) _ = _
          simp only [Act.put, List.setIfInBounds_toArray, List.set_cons_zero, List.set_cons_succ, i64_w, i32_w]
          rfl
        refine pure_ (i := 10) (N := some 16) (v := ?_) (a' := ?_) #[true, true, true, true, true, true, true, true, true, true, true, false, false] rfl rfl (by kernel_rfl) (fun _ _ _ h => h) (Or.inl ⟨by rfl, ?_⟩) ?_ ?_
        rotate_left
        · intro w'
          go_simp
          with_reducible rfl
        rotate_left
        · simp only [Act.put, List.setIfInBounds_toArray, List.set_cons_zero, List.set_cons_succ, i64_w, i32_w]
          rfl
        refine one_ (i := 11) (N := some 3) #[true, true, true, true, true, true, true, true, true, true, true, true, false] rfl rfl (by kernel_rfl) (by decide) (fun K hK => ?_)
        refine value_ (w1 := ?_) (v := ?_) (by rfl) rfl ?_ ?_
        rotate_left 2
        · go_simp
          constructor
          · rfl
          · rfl
        have G5_4_11 := Aside0.mk G5_4.out.al
        try simp only [World.size_alloc] at G5_4_11
        refine hK.out _ _ ⟨G5_4_11.out.cell QA.out.1, G5_4_11.out.cell QA.out.2⟩ (fun hHeld => ?_)
        clear hK K
        refine norm_ (a' := ?_) ?_ ?_
        rotate_left
        · show Act.put _ (some 3) _ = _
          simp only [Act.put, List.setIfInBounds_toArray, List.set_cons_zero, List.set_cons_succ, i64_w, i32_w]
          rfl
        exact norm_ (by simp only [putAll, Act.put, List.setIfInBounds_toArray, List.set_cons_zero, List.set_cons_succ]) (hCont (_, _, _) _ G5_4_11.out)
      · skip
        refine value_ (w1 := ?_) (v := ?_) (by rfl) rfl ?_ ?_
        rotate_left 2
        · go_simp
          constructor
          · rfl
          · rfl
        have G5_11 := Aside0.mk G5.out.al
        try simp only [World.size_alloc] at G5_11
        refine hK.out _ _ ⟨G5_11.out.cell QA.out.1, G5_11.out.cell QA.out.2⟩ (fun hHeld => ?_)
        clear hK K
        refine norm_ (a' := ?_) ?_ ?_
        rotate_left
        · show Act.put _ (some 3) _ = _
          simp only [Act.put, List.setIfInBounds_toArray, List.set_cons_zero, List.set_cons_succ, i64_w, i32_w]
          rfl
        refine one_ (i := 4) (N := some 10) #[true, true, true, true, true, true, true, true, true, true, false, true, false] rfl rfl (by kernel_rfl) (by decide) (fun K hK => ?_)
        refine copy_step G5_11.out HROW5.out HB5.out (by rfl) (s := .const (.slice none 0 0)) (x := .tmp 9) rfl rfl rfl (by rw [HLEN.out]; have := HGL.out; omega) ?_
        intro v5 w8 hG8
        obtain ⟨A5, c5, e5⟩ := Kd.R_slice (hG8.row _ rfl)
        subst e5
        have G5_11_4 := Aside0.mk hG8
        clear hG8
        refine hK.out _ _ ⟨G5_11_4.out.cell QA.out.1, G5_11_4.out.cell QA.out.2⟩ (fun hHeld => ?_)
        clear hK K
        refine norm_ (a' := ?_) ?_ ?_
        rotate_left
        · show Act.put _ (some 10) _ = _
          simp only [Act.put, List.setIfInBounds_toArray, List.set_cons_zero, List.set_cons_succ, i64_w, i32_w]
          rfl
        refine pure_ (i := 10) (N := some 16) (v := ?_) (a' := ?_) #[true, true, true, true, true, true, true, true, true, true, true, true, false] rfl rfl (by kernel_rfl) (fun _ _ _ h => h) (Or.inl ⟨by rfl, ?_⟩) ?_ ?_
        rotate_left
        · intro w'
          go_simp
          with_reducible rfl
        rotate_left
        · simp only [Act.put, List.setIfInBounds_toArray, List.set_cons_zero, List.set_cons_succ, i64_w, i32_w]
          rfl
        exact norm_ (by simp only [putAll, Act.put, List.setIfInBounds_toArray, List.set_cons_zero, List.set_cons_succ]) (hCont (_, _, _) _ G5_11_4.out)
    · skip
      refine value_ (w1 := ?_) (v := ?_) (by rfl) rfl ?_ ?_
      rotate_left 2
      · go_simp
        constructor
        · rfl
        · rfl
      have G11 := Aside0.mk G0.out.al
      try simp only [World.size_alloc] at G11
      refine hK.out _ _ ⟨G11.out.cell QA.out.1, G11.out.cell QA.out.2⟩ (fun hHeld => ?_)
      clear hK K
      refine norm_ (a' := ?_) ?_ ?_
      rotate_left
      · show Act.put _ (some 3) _ = _
        simp only [Act.put, List.setIfInBounds_toArray, List.set_cons_zero, List.set_cons_succ, i64_w, i32_w]
        rfl
      refine two_ (i := 4) (j := 5) (Ni := some 10) (Nj := some 11) #[true, true, true, true, true, false, true, true, true, true, false, true, false] #[true, true, true, true, false, true, true, true, true, true, false, true, false] rfl rfl rfl rfl (by kernel_rfl) (by decide) (by decide) (fun K hK => ?_) (fun K hK => ?_)
      · skip
        refine copy_step G11.out HROW5.out HB5.out (by rfl) (s := .const (.slice none 0 0)) (x := .tmp 9) rfl rfl rfl (by rw [HLEN.out]; have := HGL.out; omega) ?_
        intro v5 w8 hG8
        obtain ⟨A5, c5, e5⟩ := Kd.R_slice (hG8.row _ rfl)
        subst e5
        have G11_4 := Aside0.mk hG8
        clear hG8
        refine hK.out _ _ ⟨G11_4.out.cell QA.out.1, G11_4.out.cell QA.out.2⟩ (fun hHeld => ?_)
        clear hK K
        refine norm_ (a' := ?_) ?_ ?_
        rotate_left
        · show Act.put _ (some 10) _ = _
          simp only [Act.put, List.setIfInBounds_toArray, List.set_cons_zero, List.set_cons_succ, i64_w, i32_w]
          rfl
        refine one_ (i := 5) (N := some 11) #[true, true, true, true, true, true, true, true, true, true, false, true, false] rfl rfl (by kernel_rfl) (by decide) (fun K hK => ?_)
        refine value_ (w1 := ?_) (v := ?_) (by rfl) rfl ?_ ?_
        rotate_left 2
        · go_simp
          constructor
          · rfl
          · rfl
        have G11_4_5 := Aside0.mk G11_4.out.mm
        try simp only [World.size_alloc] at G11_4_5
        refine hK.out _ _ ⟨G11_4_5.out.cell QA.out.1, G11_4_5.out.cell QA.out.2⟩ (fun hHeld => ?_)
        clear hK K
        refine norm_ (a' := ?_) ?_ ?_
        rotate_left
        · show Act.put _ (some 11) _ = _
          simp only [Act.put, List.setIfInBounds_toArray, List.set_cons_zero, List.set_cons_succ, i64_w, i32_w]
          rfl
        refine pure_ (i := 10) (N := some 16) (v := ?_) (a' := ?_) #[true, true, true, true, true, true, true, true, true, true, true, true, false] rfl rfl (by kernel_rfl) (fun _ _ _ h => h) (Or.inl ⟨by rfl, ?_⟩) ?_ ?_
        rotate_left
        · intro w'
          go_simp
          with_reducible rfl
        rotate_left
        · simp only [Act.put, List.setIfInBounds_toArray, List.set_cons_zero, List.set_cons_succ, i64_w, i32_w]
          rfl
        exact norm_ (by simp only [putAll, Act.put, List.setIfInBounds_toArray, List.set_cons_zero, List.set_cons_succ]) (hCont (_, _, _) _ G11_4_5.out)
      · skip
        refine value_ (w1 := ?_) (v := ?_) (by rfl) rfl ?_ ?_
        rotate_left 2
        · go_simp
          constructor
          · rfl
          · rfl
        have G11_5 := Aside0.mk G11.out.mm
        try simp only [World.size_alloc] at G11_5
        refine hK.out _ _ ⟨G11_5.out.cell QA.out.1, G11_5.out.cell QA.out.2⟩ (fun hHeld => ?_)
        clear hK K
        refine norm_ (a' := ?_) ?_ ?_
        rotate_left
        · show Act.put _ (some 11) _ = _
          simp only [Act.put, List.setIfInBounds_toArray, List.set_cons_zero, List.set_cons_succ, i64_w, i32_w]
          rfl
        refine one_ (i := 4) (N := some 10) #[true, true, true, true, true, true, true, true, true, true, false, true, false] rfl rfl (by kernel_rfl) (by decide) (fun K hK => ?_)
        refine copy_step G11_5.out HROW5.out HB5.out (by rfl) (s := .const (.slice none 0 0)) (x := .tmp 9) rfl rfl rfl (by rw [HLEN.out]; have := HGL.out; omega) ?_
        intro v5 w8 hG8
        obtain ⟨A5, c5, e5⟩ := Kd.R_slice (hG8.row _ rfl)
        subst e5
        have G11_5_4 := Aside0.mk hG8
        clear hG8
        refine hK.out _ _ ⟨G11_5_4.out.cell QA.out.1, G11_5_4.out.cell QA.out.2⟩ (fun hHeld => ?_)
        clear hK K
        refine norm_ (a' := ?_) ?_ ?_
        rotate_left
        · show Act.put _ (some 10) _ = _
          simp only [Act.put, List.setIfInBounds_toArray, List.set_cons_zero, List.set_cons_succ, i64_w, i32_w]
          rfl
        refine pure_ (i := 10) (N := some 16) (v := ?_) (a' := ?_) #[true, true, true, true, true, true, true, true, true, true, true, true, false] rfl rfl (by kernel_rfl) (fun _ _ _ h => h) (Or.inl ⟨by rfl, ?_⟩) ?_ ?_
        rotate_left
        · intro w'
          go_simp
          with_reducible rfl
        rotate_left
        · simp only [Act.put, List.setIfInBounds_toArray, List.set_cons_zero, List.set_cons_succ, i64_w, i32_w]
          rfl
        exact norm_ (by simp only [putAll, Act.put, List.setIfInBounds_toArray, List.set_cons_zero, List.set_cons_succ]) (hCont (_, _, _) _ G11_5_4.out)
  rintro ⟨v6, u6, p6⟩ w6 hG6
  have hHeld : w6.cell? ⟨g, 0, none⟩ = some (.slice Av ll.length cv) ∧ w6.cell? ⟨g, 2, none⟩ = some (.int .i64 mg) := ⟨hG6.cell QA.out.1, hG6.cell QA.out.2⟩
  obtain ⟨bm, eu, hbm, hbm0⟩ := hG6.map _ rfl
  obtain ⟨pq, ep, hpq, hpq0⟩ := hG6.box _ rfl
  have hr6 := hG6.row _ rfl
  obtain ⟨A6, n6, e6⟩ := Kd.R_slice hr6
  dsimp only at eu ep e6 hr6
  subst eu ep e6
  have G6 := Aside0.mk hG6.bel
  have HBM := Aside0.mk hbm
  have HPQ := Aside0.mk hpq
  have HR6 := Aside0.mk hr6
  have HBM0 := Aside0.mk hbm0
  have HPQ0 := Aside0.mk hpq0
  clear hG6 hbm hpq hr6 hbm0 hpq0
  refine norm_ (a' := ?_) ?_ ?_
  rotate_left
  · simp only [putAll, Act.put, List.setIfInBounds_toArray, List.set_cons_zero, List.set_cons_succ]
    rfl
  refine last_ (i := 12) (N := none) #[true, true, true, true, true, true, true, true, true, true, true, true, true] rfl rfl (by kernel_rfl) (by decide) (fun K hK => ?_)
  have hs0_ : w6.cell? ⟨pq, 0, none⟩ = some (.slice none 0 0) := (blk_cell HPQ.out 0).trans rfl
  have hs1_ : w6.cell? ⟨pq, 1, none⟩ = some (.map none) := (blk_cell HPQ.out 1).trans rfl
  have hs2_ : w6.cell? ⟨pq, 2, none⟩ = some (.int .i64 0) := (blk_cell HPQ.out 2).trans rfl
  have hf0_ : w6.frozen? ⟨pq, 0, none⟩ = false := blk_frozen HPQ.out 0
  have hf1_ : w6.frozen? ⟨pq, 1, none⟩ = false := blk_frozen HPQ.out 1
  have hf2_ : w6.frozen? ⟨pq, 2, none⟩ = false := blk_frozen HPQ.out 2
  refine skip_ (w1 := ?_) (by rfl) rfl ?_ ?_
  rotate_left
  · go_simp
    rfl
  refine hK.out _ _ ?_
  clear hK K
  refine done_ (by kernel_rfl) ?_
  
  have hsz5 : w.heap.size < w5.heap.size := blk_lt R0.out
  have bx7 := blk_set (blk_set (blk_set HPQ.out 0 (.slice A6 ll.length n6)) 1 (.map (some bm))) 2 (.int .i64 mg)
  have hne : bm ≠ pq := by rintro rfl; have h_ := HBM.out; rw [HPQ.out] at h_; cases h_
  have hpq0 := HPQ0.out
  have hbm0 := HBM0.out
  have row7 := Kd.R_set (Kd.R_set (Kd.R_set HR6.out HPQ.out (by decide) 0 (.slice A6 ll.length n6)) (blk_set HPQ.out 0 (.slice A6 ll.length n6)) (by decide) 1 (.map (some bm))) (blk_set (blk_set HPQ.out 0 (.slice A6 ll.length n6)) 1 (.map (some bm))) (by decide) 2 (.int .i64 mg)
  have bel7 : Below w5.heap.size w5 (((w6.setCell ⟨pq, 0, none⟩ (.slice A6 ll.length n6)).setCell ⟨pq, 1, none⟩ (.map (some bm))).setCell ⟨pq, 2, none⟩ (.int .i64 mg)) := ((G6.out.setCell (B := w5.heap.size) (p := ⟨pq, 0, none⟩) hpq0 _).setCell (p := ⟨pq, 1, none⟩) hpq0 _).setCell (p := ⟨pq, 2, none⟩) hpq0 _
  have oth7 : ∀ k, k ≠ pq → (((w6.setCell ⟨pq, 0, none⟩ (.slice A6 ll.length n6)).setCell ⟨pq, 1, none⟩ (.map (some bm))).setCell ⟨pq, 2, none⟩ (.int .i64 mg)).heap[k]? = w6.heap[k]? := fun k hk => ((Below.heap_setCell _ ⟨pq, 2, none⟩ _ k hk).trans (Below.heap_setCell _ ⟨pq, 1, none⟩ _ k hk)).trans (Below.heap_setCell w6 ⟨pq, 0, none⟩ _ k hk)
  have map7 := (oth7 bm hne).trans HBM.out
  have res7 := (oth7 w.heap.size (by omega)).trans (blk_below R0.out G6.out)
  have bx7' : (((w6.setCell ⟨pq, 0, none⟩ (.slice A6 ll.length n6)).setCell ⟨pq, 1, none⟩ (.map (some bm))).setCell ⟨pq, 2, none⟩ (.int .i64 mg)).heap[pq]? = some (.cells #[(.slice A6 ll.length n6), .map (some bm), .int .i64 mg] 45 (0, 0)) := by simpa using bx7
  clear bx7 oth7
  generalize (((w6.setCell ⟨pq, 0, none⟩ (.slice A6 ll.length n6)).setCell ⟨pq, 1, none⟩ (.map (some bm))).setCell ⟨pq, 2, none⟩ (.int .i64 mg)) = w7 at bel7 row7 map7 res7 bx7' ⊢
  have belw := C0.out.trans (bel7.mono (Nat.le_of_lt hsz5))
  have HOWN := Aside0.mk (HMAP.out.kept (grown_of_below belw none) (by simp))
  have q1 : w7.cell? ⟨g, 1, none⟩ = some (.map (some b)) := (belw.cell HLT.out).trans Q1.out
  have HNE := Aside0.mk hne
  have HS5 := Aside0.mk hsz5
  have HB7 := Aside0.mk belw
  have HBEL7 := Aside0.mk bel7
  have HROW7 := Aside0.mk row7
  have HM7 := Aside0.mk map7
  have HRES7 := Aside0.mk res7
  have HBX7 := Aside0.mk bx7'
  have HLB : Aside0 (b < w.heap.size) := ⟨HMAP.out.lt⟩
  clear hne hsz5 belw bel7 row7 map7 res7 bx7' hpq0 hbm0
  go_wp2_with (at_range; refine wpList_range_own _ rfl _ 43 rfl 9 3 placesLaw Tryd.underlying43 _ b gs.length _ rfl HOWN.out ?_; intro w8 hrg0 hg0 hs0)
  go_frame
  have CL0 : CL w B ll (.slice A6 ll.length n6) mg b bm pq w7.heap.size w8 := ⟨HB7.out.trans (bel_of_grown hg0 HB7.out.size (by intro k e; cases e)), Kd.R_mono (Kd.R_grown (Kd.R_bound HROW7.out) hg0 (by intro k _ e; cases e)) (fun k hk => ⟨fun e => by obtain ⟨_, _, _, q_, _, cells_, hc_⟩ := hk; rw [e, HM7.out] at hc_; simp at hc_, fun e => by have := hk.2.2.1; omega⟩), blk_grown HBX7.out hg0 (by simp), blk_grown HRES7.out hg0 (by simp)⟩
  have OM0 : w8.ownsMap Tryd.prog 9 (plainElem (H := Unit) Tryd.prog 3) bm 0 (.map []) := World.ownsMap.kept (w := w7) ⟨#[], 0, HM7.out, ⟨by simp, MapKept.stamped_empty 0, by simp⟩, Nat.le_refl _, rfl⟩ hg0 (by simp)
  have hbq : bm < w7.heap.size ∧ pq < w7.heap.size := ⟨(Array.getElem?_eq_some_iff.1 HM7.out).1, blk_lt HBX7.out⟩
  have HBQ := Aside0.mk hbq
  clear hbq
  obtain ⟨it, hit⟩ : ∃ it, it = w7.heap.size := ⟨_, rfl⟩
  rw [← hit] at CL0 hrg0 HBQ ⊢
  have HIT := Aside0.mk hit
  clear hg0 hs0 q1 hit
  go_loopw [4, 5] (fun _ _ W => ∃ (left : Lit → Bool) (cnt : Nat) (Dout : DataW Unit), W.ranges Tryd.prog 9 (plainElem (H := Unit) Tryd.prog 3) b it gs.length D left cnt ∧ cnt ≤ Maps.size D ∧ W.ownsMap Tryd.prog 9 (plainElem (H := Unit) Tryd.prog 3) bm (Maps.size D - cnt) Dout ∧ Agree Dout D left ∧ CL w B ll (.slice A6 ll.length n6) mg b bm pq it W) (fun _ _ W => W.rangeLeft b it)
  case atStart => exact ⟨_, _, .map [], hrg0, Nat.le_refl _, OM0.mono (Nat.zero_le _), agree_start D, CL0⟩
  case round =>
    clear CL0 OM0 hrg0
    obtain ⟨left, cnt, Dout, hrg, hcs, hout, hA, hcl⟩ := hrel
    have HCL := Aside0.mk hcl
    have HRG := Aside0.mk hrg
    have HOUT := Aside0.mk hout
    have HA := Aside0.mk hA
    have HCS := Aside0.mk hcs
    clear hcl hrg hout hA hcs
    go_wp2_with (at_next; refine next_ranges_si _ rfl _ rfl 9 3 .i64 placesLaw Tryd.underlying9 Tryd.underlying3 b it gs.length _ _ _ rfl HRG.out ?_ ?_)
    · intro hc0 hl0
      have p0 : wr.cell? ⟨pq, 0, none⟩ = some (.slice A6 ll.length n6) := (blk_cell HCL.out.box 0).trans rfl
      have p1 : wr.cell? ⟨pq, 1, none⟩ = some (.map (some bm)) := (blk_cell HCL.out.box 1).trans rfl
      have p2 : wr.cell? ⟨pq, 2, none⟩ = some (.int .i64 mg) := (blk_cell HCL.out.box 2).trans rfl
      have r0 : wr.cell? ⟨w.heap.size, 0, none⟩ = some (.slice none 0 0) := (blk_cell HCL.out.res 0).trans rfl
      have f0 : wr.frozen? ⟨w.heap.size, 0, none⟩ = false := blk_frozen HCL.out.res 0
      have r1 : wr.cell? ⟨w.heap.size, 1, none⟩ = some (.map none) := (blk_cell HCL.out.res 1).trans rfl
      have f1 : wr.frozen? ⟨w.heap.size, 1, none⟩ = false := blk_frozen HCL.out.res 1
      have r2 : wr.cell? ⟨w.heap.size, 2, none⟩ = some (.int .i64 0) := (blk_cell HCL.out.res 2).trans rfl
      have f2 : wr.frozen? ⟨w.heap.size, 2, none⟩ = false := blk_frozen HCL.out.res 2
      go_wp2_with fail
      subst hc0
      have e_ := agree_end HA.out hl0 (HOUT.out.canon placesLaw) (HOWN.out.canon placesLaw)
      subst e_
      have bx9 := blk_set (blk_set (blk_set HCL.out.res 0 (.slice A6 ll.length n6)) 1 (.map (some bm))) 2 (.int .i64 mg)
      refine bodyPost_ret (results_cell_row rfl _ _ w.heap.size 45 #[(.slice A6 ll.length n6), .map (some bm), .int .i64 mg] (0, 0) _ rfl (by simpa using bx9) Tryd.underlying45 rfl (by kernel_rfl)) rfl ?_
      have belx := ((HCL.out.bel.setCell (B := w.heap.size) (p := ⟨w.heap.size, 0, none⟩) (Nat.le_refl _) (.slice A6 ll.length n6)).setCell (p := ⟨w.heap.size, 1, none⟩) (Nat.le_refl _) (.map (some bm))).setCell (p := ⟨w.heap.size, 2, none⟩) (Nat.le_refl _) (.int .i64 mg)
      have hne9 : bm ≠ w.heap.size := by have := HBM0.out; have := HS5.out; omega
      have rowx := Kd.R_set (Kd.R_set (Kd.R_set HCL.out.row HCL.out.res (by decide) 0 (.slice A6 ll.length n6)) (blk_set HCL.out.res 0 (.slice A6 ll.length n6)) (by decide) 1 (.map (some bm))) (blk_set (blk_set HCL.out.res 0 (.slice A6 ll.length n6)) 1 (.map (some bm))) (by decide) 2 (.int .i64 mg)
      have ks : ∀ {W : World} {n : Nat} (i : Nat) (u : Value), W.ownsMap Tryd.prog 9 (plainElem (H := Unit) Tryd.prog 3) bm n Dout → (W.setCell ⟨w.heap.size, i, none⟩ u).ownsMap Tryd.prog 9 (plainElem (H := Unit) Tryd.prog 3) bm n Dout := fun {W n} i u h => h.kept (row := some w.heap.size) ⟨rfl, rfl, rfl, by simp, fun k _ hk => Below.heap_setCell W ⟨w.heap.size, i, none⟩ u k (by rintro rfl; exact hk rfl)⟩ (by intro e; injection e with e; exact hne9 e)
      exact ⟨_, bm, rfl, Kd.R_mono rowx (fun _ _ => trivial), ks 2 _ (ks 1 _ (ks 0 _ (HOUT.out.mono (by have := HOWN.out.size_le; omega)))), by have := HBM0.out; have := HS5.out; omega, belx⟩
    · intro sk ca w9 cnt1 hkey hwc hlk hat hrg1 hlt hg1 hs1 hen
      have hout1 := Aside0.mk (HOUT.out.kept hg1 (by have := HBQ.out; have := HIT.out; intro e; injection e with e; omega))
      have CL1 := Aside0.mk (HCL.out.grown hg1 (Or.inr rfl) (by have := HS5.out; have := HBEL7.out.size; have := HIT.out; omega) (by have := HBQ.out; have := HIT.out; omega))
      have HKEY := Aside0.mk hkey
      have HWC := Aside0.mk hwc
      have HRG1 := Aside0.mk hrg1
      have HG1 := Aside0.mk hg1
      have HLT1 := Aside0.mk hlt
      have HAT := Aside0.mk hat
      have p1 : w9.cell? ⟨pq, 1, none⟩ = some (.map (some bm)) := (blk_cell CL1.out.box 1).trans rfl
      clear hkey hwc hlk hat hrg1 hlt hg1 hs1
      go_wp2_with (at_mapUpdate; refine wpList_mapUpdate_own _ rfl _ _ _ 43 rfl 9 3 placesLaw Tryd.underlying43 _ bm _ _ rfl hout1.out (by have := HOWN.out.size_le; have := HGL.out; unfold maxLen; omega) _ _ _ rfl rfl HKEY.out _ [] (plainElem_int Tryd.underlying3 HWC.out) ?_; intro w10 hout2 hg2; go_frame)
      have hrg2 := HRG1.out.kept hg2 (fun e => by have := Option.some.inj e; have := HBM0.out; have := HS5.out; have := HLB.out; omega) (fun e => by have := Option.some.inj e; have := HBQ.out; have := HIT.out; omega)
      go_roundw
      case rel => exact ⟨_, cnt1, _, hrg2, by have := HLT1.out; have := HCS.out; omega, hout2.mono (by have := HLT1.out; have := HCS.out; omega), agree_step HA.out HOUT.out.isMap (by trivial) HAT.out, CL1.out.grown hg2 (Or.inl rfl) (by have := HBM0.out; have := HS5.out; omega) (fun e => HNE.out e.symm)⟩
      case measure => rw [hrg2.left_eq, HRG.out.left_eq]; exact HLT1.out
end Go.Proofs.YtfgglniigeagdaaDoor.Cn
