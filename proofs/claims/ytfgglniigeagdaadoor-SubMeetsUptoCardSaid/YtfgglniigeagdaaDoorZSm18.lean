/- Parts of the proof of subMeets_holds (18 of 20): what it says and shows stands at its declarations. -/
import Derived.Test.YtfgglniigeagdaaDoorZSm17
namespace Go.Proofs.YtfgglniigeagdaaDoor.Cn
set_option linter.unusedSimpArgs false
set_option linter.unusedVariables false
open Go.RowKit Go.Maps Go.Proofs.YtfgglniigeagdaaDoorW.PrintWords Go.Proofs.YtfgglniigeagdaaDoorW.PrintLast Go.Proofs.YtfgglniigeagdaaDoorW.PrintMore Go.Proofs.YtfgglniigeagdaaDoor.QD
noncomputable def valM (l : List S62) (a b : S74) : Bool := decide (a.f0 = b.f0) && (decide (1 ≤ a.f0) && decide (a.f0 ≤ 7)) && (decide (a.f0 ≠ 5) || (heapM l a.f2 b.f2 && (!a.f1 || b.f1)))
noncomputable def valsM (l : List S62) (a b : List S74) : Bool := decide (a.length = b.length) && (a.zip b).all fun p => valM l p.1 p.2
noncomputable def fieldM (l : List S62) (a b : S118) : Bool := (a.f1 == b.f1) && valM l a.f0 b.f0 && (!a.f1 || valM l b.f0 a.f0)
noncomputable def compM (l : List S62) (a b : S51) : Bool :=
  decide (a.f0 = b.f0) && (if a.f0 = 1 then valsM l b.f1 a.f1 && valsM l a.f2 b.f2
    else (if a.f0 = 2 then decide (b.f3.length ≤ a.f3.length) else decide (a.f0 = 3) && decide (a.f3.length = 1) && decide (b.f3.length = 1)) && (a.f3.zip b.f3).all fun p => fieldM l p.1 p.2)
set_option maxRecDepth 100000 in
set_option maxHeartbeats 4000000 in
theorem r7Val_calls (A : Option Addr) (c : Nat) (l : List S62) (a b : S74) (w : World) (hl : LA w A c l) (hc : Clo l) :
    Calls Tryd.prog 96 #[.slice A l.length c, .agg #[.int .i64 a.f0, .bool a.f1, .int .i64 a.f2], .agg #[.int .i64 b.f0, .bool b.f1, .int .i64 b.f2]] w fun e w' => e = .returned (.bool (valM l a b)) ∧ Below w.heap.size w w' := by
  obtain ⟨x0, x1, x2⟩ := a
  obtain ⟨y0, y1, y2⟩ := b
  dsimp only
  have ba : Below w.heap.size w ((w.alloc (.cells #[.int .i64 x0, .bool x1, .int .i64 x2] 74)).alloc (.cells #[.int .i64 y0, .bool y1, .int .i64 y2] 74)) := ((Below.refl _ _).alloc (Nat.le_refl _) _).alloc (by simp) _
  have BA := Aside0.mk ba
  have K := r7Heap_calls A c l x2 y2 _ (hl.below ba) hc
  clear hl hc ba
  by_cases h1 : x0 = y0
  · subst h1
    by_cases h2 : 1 ≤ x0
    · by_cases h3 : x0 ≤ 7
      · by_cases h4 : x0 = 5
        · subst h4
          obtain ⟨h, hh⟩ : ∃ h, h = heapM l x2 y2 := ⟨_, rfl⟩
          have EM : Aside0 (valM l ⟨5, x1, x2⟩ ⟨5, y1, y2⟩ = (h && (!x1 || y1))) := ⟨by rw [hh]; simp [valM]⟩
          rw [← hh] at K
          clear h2 h3 hh
          go_enter Tryd.func96, Tryd.ntmps96
          go_wp2_with fail
          refine K.mono ?_
          rintro e w1 ⟨rfl, hb⟩
          have B1 : Aside0 (Below w.heap.size w w1) := ⟨BA.out.trans (hb.mono BA.out.size)⟩
          have q0 := blk_below (blk_alloc (blk_new w (.cells #[.int .i64 5, .bool x1, .int .i64 x2] 74)) (.cells #[.int .i64 5, .bool y1, .int .i64 y2] 74)) hb
          have q1 : w1.heap[w.heap.size + 1]? = some (.cells #[.int .i64 5, .bool y1, .int .i64 y2] 74 (0, 0)) := by have h_ := blk_below (blk_new (w.alloc (.cells #[.int .i64 5, .bool x1, .int .i64 x2] 74)) (.cells #[.int .i64 5, .bool y1, .int .i64 y2] 74)) hb; rw [World.size_alloc] at h_; exact h_
          have z0 : w1.cell? ⟨w.heap.size, 1, none⟩ = some (.bool x1) := (blk_cell q0 1).trans rfl
          have z1 : w1.cell? ⟨w.heap.size + 1, 1, none⟩ = some (.bool y1) := (blk_cell q1 1).trans rfl
          clear hb K q0 q1
          cases h <;> cases x1 <;>
            (go_wp2_with fail
             go_ret
             exact ⟨by rw [EM.out]; rfl, B1.out⟩)
        · have EM : Aside0 (valM l ⟨x0, x1, x2⟩ ⟨x0, y1, y2⟩ = true) := ⟨by simp [valM, h2, h3, h4]⟩
          clear K
          have hlt : ¬ x0 < 1 := by omega
          have hgt : ¬ 7 < x0 := by omega
          go_enter Tryd.func96, Tryd.ntmps96
          go_wp2_with fail
          go_ret
          exact ⟨by rw [EM.out]; rfl, BA.out⟩
      · have EM : Aside0 (valM l ⟨x0, x1, x2⟩ ⟨x0, y1, y2⟩ = false) := ⟨by simp [valM, h2, h3]⟩
        clear K
        have hlt : ¬ x0 < 1 := by omega
        have hgt : 7 < x0 := by omega
        go_enter Tryd.func96, Tryd.ntmps96
        go_wp2_with fail
        go_ret
        exact ⟨by rw [EM.out]; rfl, BA.out⟩
    · have EM : Aside0 (valM l ⟨x0, x1, x2⟩ ⟨x0, y1, y2⟩ = false) := ⟨by simp [valM, h2]⟩
      clear K
      have hlt : x0 < 1 := by omega
      go_enter Tryd.func96, Tryd.ntmps96
      go_wp2_with fail
      go_ret
      exact ⟨by rw [EM.out]; rfl, BA.out⟩
  · have EM : Aside0 (valM l ⟨x0, x1, x2⟩ ⟨y0, y1, y2⟩ = false) := ⟨by simp [valM, h1]⟩
    have e1 : (x0 != y0) = true := by simp [h1]
    clear K
    go_enter Tryd.func96, Tryd.ntmps96
    go_wp2_with fail
    go_ret
    exact ⟨by rw [EM.out]; rfl, BA.out⟩
theorem zip_snoc {α β : Type} {f : α × β → Bool} {us : List α} {vs : List β} {k : Nat} {x : α} {y : β} (hx : us[k]? = some x) (hy : vs[k]? = some y) : ((us.zip vs).take (k + 1)).all f = (((us.zip vs).take k).all f && f (x, y)) := by
  have : (us.zip vs)[k]? = some (x, y) := by exact List.getElem?_zip_eq_some.2 ⟨hx, hy⟩
  rw [List.take_add_one, this, List.all_append]
  simp
theorem zip_stop {α β : Type} {f : α × β → Bool} {us : List α} {vs : List β} {k : Nat} {x : α} {y : β} (hx : us[k]? = some x) (hy : vs[k]? = some y) (h : f (x, y) = false) : (us.zip vs).all f = false := by
  have : (us.zip vs)[k]? = some (x, y) := by exact List.getElem?_zip_eq_some.2 ⟨hx, hy⟩
  rw [List.all_eq_false]
  exact ⟨_, List.mem_of_getElem? this, by rw [h]; simp⟩
set_option maxRecDepth 100000 in
set_option maxHeartbeats 8000000 in
theorem r7Vals_calls (A : Option Addr) (c : Nat) (l : List S62) (Aa : Option Addr) (ca : Nat) (us : List S74) (Ab : Option Addr) (cb : Nat) (vs : List S74) (w : World) (hl : LA w A c l) (hc : Clo l) (hA : Kd.C k74 w Aa us.length us) (hB : Kd.C k74 w Ab vs.length vs) (hn : us.length ≤ 1048576) :
    Calls Tryd.prog 88 #[.slice A l.length c, .slice Aa us.length ca, .slice Ab vs.length cb] w fun e w' => e = .returned (.bool (valsM l us vs)) ∧ Below w.heap.size w w' := by
  have HL := Aside0.mk hl
  have HC := Aside0.mk hc
  have HA := Aside0.mk hA
  have HB := Aside0.mk hB
  clear hl hc hA hB
  by_cases hlen : us.length = vs.length
  rotate_left
  · have EM : Aside0 (valsM l us vs = false) := ⟨by simp [valsM, hlen]⟩
    have e1 : ((us.length : Int) != (vs.length : Int)) = true := by simp; omega
    go_enter Tryd.func88, Tryd.ntmps88
    go_wp2_with fail
    go_ret
    exact ⟨by rw [EM.out]; rfl, Below.refl _ _⟩
  have EV : Aside0 (valsM l us vs = (us.zip vs).all fun p => valM l p.1 p.2) := ⟨by simp [valsM, hlen]⟩
  obtain ⟨n, hnn⟩ : ∃ n, n = us.length := ⟨_, rfl⟩
  have NA := Aside0.mk hnn
  have NB : Aside0 (n = vs.length) := ⟨hnn.trans hlen⟩
  rw [← hlen, ← hnn]
  rw [← hnn] at hn
  rw [← NA.out] at HA
  rw [← NB.out] at HB
  clear hnn hlen
  go_enter Tryd.func88, Tryd.ntmps88
  go_wp2_with fail
  go_loopw [7] (fun i W => ∃ (k : Nat), i = .int .i64 k ∧ k ≤ n ∧ ((us.zip vs).take k).all (fun p => valM l p.1 p.2) = true ∧ Below w.heap.size w W) (fun i _ => n - (intOf i).toNat)
  case atStart => exact ⟨0, rfl, Nat.zero_le _, by simp, Below.refl _ _⟩
  case round =>
    obtain ⟨k, rfl, hk, hall, hbw⟩ := hrel
    have W0 := Aside0.mk hbw
    have ALL := Aside0.mk hall
    clear hall hbw
    have k0 : (0 : Int) ≤ (k : Int) := Int.natCast_nonneg k
    by_cases hlk : k < n
    · obtain ⟨aa, ea, d0, d1, d2⟩ := at_T74 HA.out (k : Int) k0 (by omega)
      obtain ⟨ab, eb, f0, f1, f2⟩ := at_T74 HB.out (k : Int) k0 (by omega)
      subst ea
      subst eb
      have XA : Aside0 (us[k]? = some (rd_T74 us (k : Int))) := ⟨by unfold rd_T74; rw [Int.toNat_natCast, List.getD_eq_getElem?_getD, List.getElem?_eq_getElem (by have := NA.out; omega)]; rfl⟩
      have XB : Aside0 (vs[k]? = some (rd_T74 vs (k : Int))) := ⟨by unfold rd_T74; rw [Int.toNat_natCast, List.getD_eq_getElem?_getD, List.getElem?_eq_getElem (by have := NB.out; omega)]; rfl⟩
      obtain ⟨x, hx⟩ : ∃ x, x = rd_T74 us (k : Int) := ⟨_, rfl⟩
      obtain ⟨y, hy⟩ : ∃ y, y = rd_T74 vs (k : Int) := ⟨_, rfl⟩
      rw [← hx] at d0 d1 d2 XA
      rw [← hy] at f0 f1 f2 XB
      clear hx hy
      simp only [Int.toNat_natCast] at d0 d1 d2 f0 f1 f2
      replace d0 := (W0.out.cell (World.block_lt_of_cell? w _ d0)).trans d0
      replace d1 := (W0.out.cell (World.block_lt_of_cell? w _ d1)).trans d1
      replace d2 := (W0.out.cell (World.block_lt_of_cell? w _ d2)).trans d2
      replace f0 := (W0.out.cell (World.block_lt_of_cell? w _ f0)).trans f0
      replace f1 := (W0.out.cell (World.block_lt_of_cell? w _ f1)).trans f1
      replace f2 := (W0.out.cell (World.block_lt_of_cell? w _ f2)).trans f2
      have kl : (k : Int) < (n : Int) := by omega
      go_wp2_with fail
      refine start_ (n := 11) (S := fun w' => w'.cell? (aa.add (k * 3)) = some (.int .i64 x.f0) ∧ w'.cell? ⟨(aa.add (k * 3)).block, (aa.add (k * 3)).off + 1, none⟩ = some (.bool x.f1) ∧ w'.cell? ⟨(aa.add (k * 3)).block, (aa.add (k * 3)).off + 2, none⟩ = some (.int .i64 x.f2) ∧ w'.cell? (ab.add (k * 3)) = some (.int .i64 y.f0) ∧ w'.cell? ⟨(ab.add (k * 3)).block, (ab.add (k * 3)).off + 1, none⟩ = some (.bool y.f1) ∧ w'.cell? ⟨(ab.add (k * 3)).block, (ab.add (k * 3)).off + 2, none⟩ = some (.int .i64 y.f2)) (ds := []) #[false, false, false, false, false, false, false, false, false, false, false] (by kernel_rfl) rfl rfl ⟨d0, d1, d2, f0, f1, f2⟩ (fun hHeld => ?_)
      have BD : Aside0 (Below w.heap.size w wr.drew) := ⟨W0.out.drew⟩
      replace d0 : wr.drew.cell? _ = _ := d0
      replace d1 : wr.drew.cell? _ = _ := d1
      replace d2 : wr.drew.cell? _ = _ := d2
      replace f0 : wr.drew.cell? _ = _ := f0
      replace f1 : wr.drew.cell? _ = _ := f1
      replace f2 : wr.drew.cell? _ = _ := f2
      generalize wr.drew = w5 at BD d0 d1 d2 f0 f1 f2 hHeld ⊢
      refine pure_ (i := 0) (N := some 19) (v := ?_) (a' := ?_) #[true, false, false, false, false, false, false, false, false, false, false] rfl rfl (by kernel_rfl) (fun _ _ _ h => h) (Or.inl ⟨by rfl, ?_⟩) ?_ ?_
      rotate_left
      · intro w'
        go_simp
        with_reducible rfl
      rotate_left
      · simp only [Act.put, List.setIfInBounds_toArray, List.set_cons_zero, List.set_cons_succ, i64_w, i32_w]
        rfl
      refine pure_ (i := 1) (N := some 20) (v := ?_) (a' := ?_) #[true, true, false, false, false, false, false, false, false, false, false] rfl rfl (by kernel_rfl) (fun _ _ _ h => h) (Or.inl ⟨by rfl, ?_⟩) ?_ ?_
      rotate_left
      · intro w'
        go_simp
        with_reducible rfl
      rotate_left
      · simp only [Act.put, List.setIfInBounds_toArray, List.set_cons_zero, List.set_cons_succ, i64_w, i32_w]
        rfl
      refine pure_ (i := 2) (N := some 21) (v := ?_) (a' := ?_) #[true, true, true, false, false, false, false, false, false, false, false] rfl rfl (by kernel_rfl) (fun _ _ _ h => h) (Or.inl ⟨by rfl, ?_⟩) ?_ ?_
      rotate_left
      · intro w'
        go_simp
        with_reducible rfl
      rotate_left
      · simp only [Act.put, List.setIfInBounds_toArray, List.set_cons_zero, List.set_cons_succ, i64_w, i32_w]
        rfl
      refine pure_ (i := 3) (N := some 22) (v := ?_) (a' := ?_) #[true, true, true, true, false, false, false, false, false, false, false] rfl rfl (by kernel_rfl) (fun _ _ _ h => h) (Or.inl ⟨by rfl, ?_⟩) ?_ ?_
      rotate_left
      · intro w'
        go_simp
        with_reducible rfl
      rotate_left
      · simp only [Act.put, List.setIfInBounds_toArray, List.set_cons_zero, List.set_cons_succ, i64_w, i32_w]
        rfl
      refine pure_ (i := 5) (N := some 24) (v := ?_) (a' := ?_) #[true, true, true, true, false, true, false, false, false, false, false] rfl rfl (by kernel_rfl) (fun _ _ _ h => h) (Or.inl ⟨by rfl, ?_⟩) ?_ ?_
      rotate_left
      · intro w'
        go_simp
        with_reducible rfl
      rotate_left
      · simp only [Act.put, List.setIfInBounds_toArray, List.set_cons_zero, List.set_cons_succ, i64_w, i32_w]
        rfl
      refine pure_ (i := 6) (N := some 25) (v := ?_) (a' := ?_) #[true, true, true, true, false, true, true, false, false, false, false] rfl rfl (by kernel_rfl) (fun _ _ _ h => h) (Or.inl ⟨by rfl, ?_⟩) ?_ ?_
      rotate_left
      · intro w'
        go_simp
        with_reducible rfl
      rotate_left
      · simp only [Act.put, List.setIfInBounds_toArray, List.set_cons_zero, List.set_cons_succ, i64_w, i32_w]
        rfl
      refine pure_ (i := 7) (N := some 26) (v := ?_) (a' := ?_) #[true, true, true, true, false, true, true, true, false, false, false] rfl rfl (by kernel_rfl) (fun _ _ _ h => h) (Or.inl ⟨by rfl, ?_⟩) ?_ ?_
      rotate_left
      · intro w'
        go_simp
        with_reducible rfl
      rotate_left
      · simp only [Act.put, List.setIfInBounds_toArray, List.set_cons_zero, List.set_cons_succ, i64_w, i32_w]
        rfl
      refine take_ (i := 4) (N := some 23) (v := ?_) (a' := ?_) #[true, true, true, true, true, true, true, true, false, false, false] rfl rfl (by kernel_rfl) (fun _ _ _ h => h) (Or.inl ⟨by rfl, ?_⟩) hHeld ?_ ?_
      rotate_left
      · rintro w' ⟨s0, s1, s2, s3, s4, s5⟩
        go_simp
        with_reducible rfl
      rotate_left
      · simp only [Act.put, List.setIfInBounds_toArray, List.set_cons_zero, List.set_cons_succ, i64_w, i32_w]
        rfl
      refine take_ (i := 8) (N := some 27) (v := ?_) (a' := ?_) #[true, true, true, true, true, true, true, true, true, false, false] rfl rfl (by kernel_rfl) (fun _ _ _ h => h) (Or.inl ⟨by rfl, ?_⟩) hHeld ?_ ?_
      rotate_left
      · rintro w' ⟨s0, s1, s2, s3, s4, s5⟩
        go_simp
        with_reducible rfl
      rotate_left
      · simp only [Act.put, List.setIfInBounds_toArray, List.set_cons_zero, List.set_cons_succ, i64_w, i32_w]
        rfl
      refine one_ (i := 9) (N := some 28) #[true, true, true, true, true, true, true, true, true, true, false] rfl rfl (by kernel_rfl) (by decide) (fun K hK => ?_)
      refine goes_ Tryd.func96 (by kernel_rfl) rfl #[.slice A l.length c, .agg #[.int .i64 x.f0, .bool x.f1, .int .i64 x.f2], .agg #[.int .i64 y.f0, .bool y.f1, .int .i64 y.f2]] (by rfl) rfl rfl (by simp only [List.map_toArray, List.map_cons, List.map_nil]; rfl) ?_
      refine (r7Val_calls A c l x y w5 (HL.out.below BD.out) HC.out).mono ?_
      rintro e w6 ⟨rfl, hb6⟩
      have B6 := Aside0.mk (BD.out.trans (hb6.mono BD.out.size))
      refine ⟨_, rfl, ?_⟩
      refine hK.out _ _ ⟨(hb6.cell (World.block_lt_of_cell? w5 _ d0)).trans d0, (hb6.cell (World.block_lt_of_cell? w5 _ d1)).trans d1, (hb6.cell (World.block_lt_of_cell? w5 _ d2)).trans d2, (hb6.cell (World.block_lt_of_cell? w5 _ f0)).trans f0, (hb6.cell (World.block_lt_of_cell? w5 _ f1)).trans f1, (hb6.cell (World.block_lt_of_cell? w5 _ f2)).trans f2⟩ (fun hHeld => ?_)
      clear hK K
      refine norm_ (a' := ?_) ?_ ?_
      rotate_left
      · show Act.put _ (some 28) _ = _
        simp only [Act.put, List.setIfInBounds_toArray, List.set_cons_zero, List.set_cons_succ, i64_w, i32_w]
        rfl
      refine pure_ (i := 10) (N := some 29) (v := ?_) (a' := ?_) #[true, true, true, true, true, true, true, true, true, true, true] rfl rfl (by kernel_rfl) (fun _ _ _ h => h) (Or.inl ⟨by rfl, ?_⟩) ?_ ?_
      rotate_left
      · intro w'
        go_simp
        with_reducible rfl
      rotate_left
      · simp only [Act.put, List.setIfInBounds_toArray, List.set_cons_zero, List.set_cons_succ, i64_w, i32_w]
        rfl
      refine done_ (by kernel_rfl) ?_
      
      clear d0 d1 d2 f0 f1 f2
      cases hv : valM l x y with
      | false =>
        have EF : Aside0 (valsM l us vs = false) := ⟨by rw [EV.out]; exact zip_stop XA.out XB.out hv⟩
        clear hv
        go_wp2_with fail
        go_ret
        exact ⟨by rw [EF.out]; rfl, B6.out⟩
      | true =>
        have ES : Aside0 (((us.zip vs).take (k + 1)).all (fun p => valM l p.1 p.2) = true) := ⟨by rw [zip_snoc XA.out XB.out, ALL.out, hv]; rfl⟩
        clear hv
        go_wp2_with fail
        go_roundw
        case rel => exact ⟨k + 1, by go_num, by omega, ES.out, B6.out⟩
        case measure => simp [intOf]; omega
    · obtain rfl : k = n := by omega
      have EF : Aside0 (valsM l us vs = true) := ⟨by
        have h := ALL.out
        rw [List.take_of_length_le (by rw [List.length_zip, ← NA.out, ← NB.out]; omega)] at h
        rw [EV.out]; exact h⟩
      clear hk hlk
      go_wp2_with fail
      go_ret
      exact ⟨by rw [EF.out]; rfl, W0.out⟩
set_option maxRecDepth 100000 in
set_option maxHeartbeats 4000000 in
theorem r7field_calls (A : Option Addr) (c : Nat) (l : List S62) (a b : S118) (w : World) (hl : LA w A c l) (hc : Clo l) :
    Calls Tryd.prog 89 #[.slice A l.length c, .agg #[.int .i64 a.f0.f0, .bool a.f0.f1, .int .i64 a.f0.f2, .bool a.f1], .agg #[.int .i64 b.f0.f0, .bool b.f0.f1, .int .i64 b.f0.f2, .bool b.f1]] w fun e w' => e = .returned (.bool (fieldM l a b)) ∧ Below w.heap.size w w' := by
  obtain ⟨x, mx⟩ := a
  obtain ⟨y, my⟩ := b
  dsimp only
  have ba : Below w.heap.size w ((w.alloc (.cells #[.int .i64 x.f0, .bool x.f1, .int .i64 x.f2, .bool mx] 118)).alloc (.cells #[.int .i64 y.f0, .bool y.f1, .int .i64 y.f2, .bool my] 118)) := ((Below.refl _ _).alloc (Nat.le_refl _) _).alloc (by simp) _
  have BA := Aside0.mk ba
  have HL := Aside0.mk hl
  have HC := Aside0.mk hc
  have K := r7Val_calls A c l x y _ (hl.below ba) hc
  clear hl hc ba
  by_cases hm : mx = my
  rotate_left
  · have EM : Aside0 (fieldM l ⟨x, mx⟩ ⟨y, my⟩ = false) := ⟨by simp [fieldM, hm]⟩
    have e1 : (mx == my) = false := by simp [hm]
    clear K
    go_enter Tryd.func89, Tryd.ntmps89
    go_wp2_with fail
    go_ret
    exact ⟨by rw [EM.out]; rfl, BA.out⟩
  subst hm
  cases hv : valM l x y with
  | false =>
    have EM : Aside0 (fieldM l ⟨x, mx⟩ ⟨y, mx⟩ = false) := ⟨by simp [fieldM, hv]⟩
    rw [hv] at K
    clear hv
    go_enter Tryd.func89, Tryd.ntmps89
    go_wp2_with fail
    refine K.mono ?_
    rintro e w1 ⟨rfl, hb⟩
    have B1 : Aside0 (Below w.heap.size w w1) := ⟨BA.out.trans (hb.mono BA.out.size)⟩
    clear hb K
    go_wp2_with fail
    go_ret
    exact ⟨by rw [EM.out]; rfl, B1.out⟩
  | true =>
    have EM : Aside0 (fieldM l ⟨x, mx⟩ ⟨y, mx⟩ = (!mx || valM l y x)) := ⟨by simp [fieldM, hv]⟩
    rw [hv] at K
    clear hv
    go_enter Tryd.func89, Tryd.ntmps89
    go_wp2_with fail
    refine K.mono ?_
    rintro e w1 ⟨rfl, hb⟩
    have B1 : Aside0 (Below w.heap.size w w1) := ⟨BA.out.trans (hb.mono BA.out.size)⟩
    have q0 := blk_below (blk_alloc (blk_new w (.cells #[.int .i64 x.f0, .bool x.f1, .int .i64 x.f2, .bool mx] 118)) (.cells #[.int .i64 y.f0, .bool y.f1, .int .i64 y.f2, .bool mx] 118)) hb
    have q1 : w1.heap[w.heap.size + 1]? = some (.cells #[.int .i64 y.f0, .bool y.f1, .int .i64 y.f2, .bool mx] 118 (0, 0)) := by have h_ := blk_below (blk_new (w.alloc (.cells #[.int .i64 x.f0, .bool x.f1, .int .i64 x.f2, .bool mx] 118)) (.cells #[.int .i64 y.f0, .bool y.f1, .int .i64 y.f2, .bool mx] 118)) hb; rw [World.size_alloc] at h_; exact h_
    have z00 : w1.cell? ⟨w.heap.size, 0, none⟩ = some (.int .i64 x.f0) := (blk_cell q0 0).trans rfl
    have z01 : w1.cell? ⟨w.heap.size, 1, none⟩ = some (.bool x.f1) := (blk_cell q0 1).trans rfl
    have z02 : w1.cell? ⟨w.heap.size, 2, none⟩ = some (.int .i64 x.f2) := (blk_cell q0 2).trans rfl
    have z03 : w1.cell? ⟨w.heap.size, 3, none⟩ = some (.bool mx) := (blk_cell q0 3).trans rfl
    have z10 : w1.cell? ⟨w.heap.size + 1, 0, none⟩ = some (.int .i64 y.f0) := (blk_cell q1 0).trans rfl
    have z11 : w1.cell? ⟨w.heap.size + 1, 1, none⟩ = some (.bool y.f1) := (blk_cell q1 1).trans rfl
    have z12 : w1.cell? ⟨w.heap.size + 1, 2, none⟩ = some (.int .i64 y.f2) := (blk_cell q1 2).trans rfl
    clear hb K q0 q1
    cases mx with
    | false =>
      go_wp2_with fail
      go_ret
      exact ⟨by rw [EM.out]; rfl, B1.out⟩
    | true =>
      go_wp2_with fail
      refine (r7Val_calls A c l y x w1 (HL.out.below B1.out) HC.out).mono ?_
      rintro e w2 ⟨rfl, hb⟩
      have B2 := Aside0.mk (B1.out.trans (hb.mono B1.out.size))
      clear hb
      go_wp2_with fail
      go_ret
      exact ⟨by rw [EM.out]; rfl, B2.out⟩
/-- A composite type's rows, in memory of others. -/
structure CIn2 (w : World) (a : S51) (P1 R1 F1 : Option Addr) : Prop where
  p : Kd.C k74 w P1 a.f1.length a.f1
  r : Kd.C k74 w R1 a.f2.length a.f2
  f : Kd.C k118 w F1 a.f3.length a.f3
  lp : a.f1.length ≤ 1048576
  lr : a.f2.length ≤ 1048576
  lf : a.f3.length ≤ 1048576
theorem CIn2.below {w w' : World} {a : S51} {P1 R1 F1 : Option Addr} (h : CIn2 w a P1 R1 F1) (hb : Below w.heap.size w w') : CIn2 w' a P1 R1 F1 := ⟨Kd.C_below h.p hb, Kd.C_below h.r hb, Kd.C_below h.f hb, h.lp, h.lr, h.lf⟩
set_option maxRecDepth 100000 in
set_option maxHeartbeats 8000000 in
theorem r7Comp_calls (A : Option Addr) (c : Nat) (l : List S62) (a : S51) (P1 : Option Addr) (p1 : Nat) (R1 : Option Addr) (r1 : Nat) (F1 : Option Addr) (f1 : Nat) (b : S51) (P2 : Option Addr) (p2 : Nat) (R2 : Option Addr) (r2 : Nat) (F2 : Option Addr) (f2 : Nat) (w : World) (hl : LA w A c l) (hc : Clo l) (ha : CIn2 w a P1 R1 F1) (hb : CIn2 w b P2 R2 F2) :
    Calls Tryd.prog 70 #[.slice A l.length c, .agg #[.int .i64 a.f0, .slice P1 a.f1.length p1, .slice R1 a.f2.length r1, .slice F1 a.f3.length f1], .agg #[.int .i64 b.f0, .slice P2 b.f1.length p2, .slice R2 b.f2.length r2, .slice F2 b.f3.length f2]] w fun e w' => e = .returned (.bool (compM l a b)) ∧ Below w.heap.size w w' := by
  have ba : Below w.heap.size w ((w.alloc (.cells #[.int .i64 a.f0, .slice P1 a.f1.length p1, .slice R1 a.f2.length r1, .slice F1 a.f3.length f1] 51)).alloc (.cells #[.int .i64 b.f0, .slice P2 b.f1.length p2, .slice R2 b.f2.length r2, .slice F2 b.f3.length f2] 51)) := ((Below.refl _ _).alloc (Nat.le_refl _) _).alloc (by simp) _
  have HL := Aside0.mk hl
  have HC := Aside0.mk hc
  have HA := Aside0.mk ha
  have HB := Aside0.mk hb
  have K := r7closed_yes A c l _ (hl.below ba) hc
  have BA := Aside0.mk ba
  have EM : Aside0 (compM l a b = compM l a b) := ⟨rfl⟩
  clear hl hc ha hb ba
  go_enter Tryd.func70, Tryd.ntmps70
  go_wp2_with fail
  refine K.mono ?_
  rintro e w1 ⟨rfl, hb⟩
  have B1 : Aside0 (Below w.heap.size w w1) := ⟨BA.out.trans (hb.mono BA.out.size)⟩
  have q0 := blk_below (blk_alloc (blk_new w (.cells #[.int .i64 a.f0, .slice P1 a.f1.length p1, .slice R1 a.f2.length r1, .slice F1 a.f3.length f1] 51)) (.cells #[.int .i64 b.f0, .slice P2 b.f1.length p2, .slice R2 b.f2.length r2, .slice F2 b.f3.length f2] 51)) hb
  have q1 : w1.heap[w.heap.size + 1]? = some (.cells #[.int .i64 b.f0, .slice P2 b.f1.length p2, .slice R2 b.f2.length r2, .slice F2 b.f3.length f2] 51 (0, 0)) := by have h_ := blk_below (blk_new (w.alloc (.cells #[.int .i64 a.f0, .slice P1 a.f1.length p1, .slice R1 a.f2.length r1, .slice F1 a.f3.length f1] 51)) (.cells #[.int .i64 b.f0, .slice P2 b.f1.length p2, .slice R2 b.f2.length r2, .slice F2 b.f3.length f2] 51)) hb; rw [World.size_alloc] at h_; exact h_
  have Q := Aside0.mk (And.intro q0 q1)
  clear hb K q0 q1 BA
  have z00 : w1.cell? ⟨w.heap.size, 0, none⟩ = some (.int .i64 a.f0) := (blk_cell Q.out.1 0).trans rfl
  have z01 : w1.cell? ⟨w.heap.size, 1, none⟩ = some (.slice P1 a.f1.length p1) := (blk_cell Q.out.1 1).trans rfl
  have z02 : w1.cell? ⟨w.heap.size, 2, none⟩ = some (.slice R1 a.f2.length r1) := (blk_cell Q.out.1 2).trans rfl
  have z03 : w1.cell? ⟨w.heap.size, 3, none⟩ = some (.slice F1 a.f3.length f1) := (blk_cell Q.out.1 3).trans rfl
  have z10 : w1.cell? ⟨w.heap.size + 1, 0, none⟩ = some (.int .i64 b.f0) := (blk_cell Q.out.2 0).trans rfl
  have z11 : w1.cell? ⟨w.heap.size + 1, 1, none⟩ = some (.slice P2 b.f1.length p2) := (blk_cell Q.out.2 1).trans rfl
  have z12 : w1.cell? ⟨w.heap.size + 1, 2, none⟩ = some (.slice R2 b.f2.length r2) := (blk_cell Q.out.2 2).trans rfl
  have z13 : w1.cell? ⟨w.heap.size + 1, 3, none⟩ = some (.slice F2 b.f3.length f2) := (blk_cell Q.out.2 3).trans rfl
  by_cases hk : a.f0 = b.f0
  rotate_left
  · have EF : Aside0 (compM l a b = false) := ⟨by simp [compM, hk]⟩
    have e1 : (a.f0 != b.f0) = true := by simp [hk]
    go_wp2_with fail
    go_ret
    exact ⟨by rw [EF.out]; rfl, B1.out⟩
  have e1 : (a.f0 != b.f0) = false := by simp [hk]
  by_cases k1 : a.f0 = 1
  · have EV : Aside0 (compM l a b = (valsM l b.f1 a.f1 && valsM l a.f2 b.f2)) := ⟨by simp [compM, hk.symm, k1]⟩
    have kb1 : b.f0 = 1 := by omega
    rw [k1] at z00
    rw [kb1] at z10
    clear e1 hk
    go_wp2_with fail
    refine (r7Vals_calls A c l P2 p2 b.f1 P1 p1 a.f1 w1 (HL.out.below B1.out) HC.out (HB.out.below B1.out).p (HA.out.below B1.out).p HB.out.lp).mono ?_
    rintro e w2 ⟨rfl, hb⟩
    have B2 := Aside0.mk (B1.out.trans (hb.mono B1.out.size))
    have y02 := (hb.cell (World.block_lt_of_cell? w1 _ z02)).trans z02
    have y12 := (hb.cell (World.block_lt_of_cell? w1 _ z12)).trans z12
    clear hb z00 z01 z02 z03 z10 z11 z12 z13
    cases h1 : valsM l b.f1 a.f1 with
    | false =>
      rw [h1] at EV
      go_wp2_with fail
      go_ret
      exact ⟨by rw [EV.out]; rfl, B2.out⟩
    | true =>
      rw [h1] at EV
      go_wp2_with fail
      refine (r7Vals_calls A c l R1 r1 a.f2 R2 r2 b.f2 w2 (HL.out.below B2.out) HC.out (HA.out.below B2.out).r (HB.out.below B2.out).r HA.out.lr).mono ?_
      rintro e w3 ⟨rfl, hb⟩
      have B3 := Aside0.mk (B2.out.trans (hb.mono B2.out.size))
      clear hb
      go_wp2_with fail
      go_ret
      exact ⟨by rw [EV.out]; rfl, B3.out⟩

  · by_cases k2 : a.f0 = 2
    · have kb2 : b.f0 = 2 := by omega
      have EV0 : Aside0 (compM l a b = (decide (b.f3.length ≤ a.f3.length) && (a.f3.zip b.f3).all fun p => fieldM l p.1 p.2)) := ⟨by simp [compM, hk.symm, k2]⟩
      rw [k2] at z00
      rw [kb2] at z10
      clear e1 hk
      by_cases hlen : b.f3.length ≤ a.f3.length
      rotate_left
      · have EF : Aside0 (compM l a b = false) := ⟨by rw [EV0.out]; simp; omega⟩
        have hl2 : (a.f3.length : Int) < (b.f3.length : Int) := by omega
        go_wp2_with fail
        go_ret
        exact ⟨by rw [EF.out]; rfl, B1.out⟩
      have EV : Aside0 (compM l a b = (a.f3.zip b.f3).all fun p => fieldM l p.1 p.2) := ⟨by rw [EV0.out]; simp [hlen]⟩
      have HLE := Aside0.mk hlen
      have hlb := HB.out.lf
      have hl2 : ¬ ((a.f3.length : Int) < (b.f3.length : Int)) := by omega
      go_wp2_with fail
      go_loopw [7] (fun i W => ∃ (k : Nat), i = .int .i64 k ∧ k ≤ b.f3.length ∧ ((a.f3.zip b.f3).take k).all (fun p => fieldM l p.1 p.2) = true ∧ Below w1.heap.size w1 W) (fun i _ => b.f3.length - (intOf i).toNat)
      case atStart => exact ⟨0, rfl, Nat.zero_le _, by simp, Below.refl _ _⟩
      case round =>
        clear z00 z01 z02 z03 z10 z11 z12 z13
        obtain ⟨k, rfl, hkk, hall, hbw⟩ := hrel
        have ALL := Aside0.mk hall
        have W1 := Aside0.mk hbw
        have W0 : Aside0 (Below w.heap.size w wr) := ⟨B1.out.trans (hbw.mono B1.out.size)⟩
        have z03 : wr.cell? ⟨w.heap.size, 3, none⟩ = some (.slice F1 a.f3.length f1) := (blk_cell (blk_below Q.out.1 hbw) 3).trans rfl
        have z13 : wr.cell? ⟨w.heap.size + 1, 3, none⟩ = some (.slice F2 b.f3.length f2) := (blk_cell (blk_below Q.out.2 hbw) 3).trans rfl
        clear hall hbw
        have k0 : (0 : Int) ≤ (k : Int) := Int.natCast_nonneg k
        by_cases hlk : k < b.f3.length
        · obtain ⟨aa, ea, d0, d1, d2, d3⟩ := at_T118 HA.out.f (k : Int) k0 (by have := HLE.out; omega)
          obtain ⟨ab, eb, g0, g1, g2, g3⟩ := at_T118 HB.out.f (k : Int) k0 (by omega)
          subst ea
          subst eb
          have XA : Aside0 (a.f3[k]? = some (rd_T118 a.f3 (k : Int))) := ⟨rd_FT_at a.f3 k (by have := HLE.out; omega)⟩
          have XB : Aside0 (b.f3[k]? = some (rd_T118 b.f3 (k : Int))) := ⟨rd_FT_at b.f3 k hlk⟩
          obtain ⟨x, hx⟩ : ∃ x, x = rd_T118 a.f3 (k : Int) := ⟨_, rfl⟩
          obtain ⟨y, hy⟩ : ∃ y, y = rd_T118 b.f3 (k : Int) := ⟨_, rfl⟩
          rw [← hx] at d0 d1 d2 d3 XA
          rw [← hy] at g0 g1 g2 g3 XB
          clear hx hy
          simp only [Int.toNat_natCast] at d0 d1 d2 d3 g0 g1 g2 g3
          replace d0 := (W0.out.cell (World.block_lt_of_cell? w _ d0)).trans d0
          replace d1 := (W0.out.cell (World.block_lt_of_cell? w _ d1)).trans d1
          replace d2 := (W0.out.cell (World.block_lt_of_cell? w _ d2)).trans d2
          replace d3 := (W0.out.cell (World.block_lt_of_cell? w _ d3)).trans d3
          replace g0 := (W0.out.cell (World.block_lt_of_cell? w _ g0)).trans g0
          replace g1 := (W0.out.cell (World.block_lt_of_cell? w _ g1)).trans g1
          replace g2 := (W0.out.cell (World.block_lt_of_cell? w _ g2)).trans g2
          replace g3 := (W0.out.cell (World.block_lt_of_cell? w _ g3)).trans g3
          have kl : (k : Int) < (b.f3.length : Int) := by omega
          have ka : (k : Int) < (a.f3.length : Int) := by have := HLE.out; omega
          go_wp2_with fail
          refine start_ (n := 13) (S := fun w' => w'.cell? ⟨w.heap.size, 3, none⟩ = some (.slice (some aa) a.f3.length f1) ∧ w'.cell? ⟨w.heap.size + 1, 3, none⟩ = some (.slice (some ab) b.f3.length f2) ∧ w'.cell? (aa.add (k * 4)) = some (.int .i64 x.f0.f0) ∧ w'.cell? ⟨(aa.add (k * 4)).block, (aa.add (k * 4)).off + 1, none⟩ = some (.bool x.f0.f1) ∧ w'.cell? ⟨(aa.add (k * 4)).block, (aa.add (k * 4)).off + 2, none⟩ = some (.int .i64 x.f0.f2) ∧ w'.cell? ⟨(aa.add (k * 4)).block, (aa.add (k * 4)).off + 3, none⟩ = some (.bool x.f1) ∧ w'.cell? (ab.add (k * 4)) = some (.int .i64 y.f0.f0) ∧ w'.cell? ⟨(ab.add (k * 4)).block, (ab.add (k * 4)).off + 1, none⟩ = some (.bool y.f0.f1) ∧ w'.cell? ⟨(ab.add (k * 4)).block, (ab.add (k * 4)).off + 2, none⟩ = some (.int .i64 y.f0.f2) ∧ w'.cell? ⟨(ab.add (k * 4)).block, (ab.add (k * 4)).off + 3, none⟩ = some (.bool y.f1)) (ds := []) #[false, false, false, false, false, false, false, false, false, false, false, false, false] (by kernel_rfl) rfl rfl ⟨z03, z13, d0, d1, d2, d3, g0, g1, g2, g3⟩ (fun hHeld => ?_)
          have BD : Aside0 (Below w1.heap.size w1 wr.drew) := ⟨W1.out.drew⟩
          have BE : Aside0 (Below w.heap.size w wr.drew) := ⟨W0.out.drew⟩
          replace z03 : wr.drew.cell? _ = _ := z03
          replace z13 : wr.drew.cell? _ = _ := z13
          replace d0 : wr.drew.cell? _ = _ := d0
          replace d1 : wr.drew.cell? _ = _ := d1
          replace d2 : wr.drew.cell? _ = _ := d2
          replace d3 : wr.drew.cell? _ = _ := d3
          replace g0 : wr.drew.cell? _ = _ := g0
          replace g1 : wr.drew.cell? _ = _ := g1
          replace g2 : wr.drew.cell? _ = _ := g2
          replace g3 : wr.drew.cell? _ = _ := g3
          generalize wr.drew = w5 at BD BE z03 z13 d0 d1 d2 d3 g0 g1 g2 g3 hHeld ⊢
          refine pure_ (i := 0) (N := some 64) (v := ?_) (a' := ?_) #[true, false, false, false, false, false, false, false, false, false, false, false, false] rfl rfl (by kernel_rfl) (fun _ _ _ h => h) (Or.inl ⟨by rfl, ?_⟩) ?_ ?_
          rotate_left
          · intro w'
            go_simp
            with_reducible rfl
          rotate_left
          · simp only [Act.put, List.setIfInBounds_toArray, List.set_cons_zero, List.set_cons_succ, i64_w, i32_w]
            rfl
          refine pure_ (i := 1) (N := some 65) (v := ?_) (a' := ?_) #[true, true, false, false, false, false, false, false, false, false, false, false, false] rfl rfl (by kernel_rfl) (fun _ _ _ h => h) (Or.inl ⟨by rfl, ?_⟩) ?_ ?_
          rotate_left
          · intro w'
            go_simp
            with_reducible rfl
          rotate_left
          · simp only [Act.put, List.setIfInBounds_toArray, List.set_cons_zero, List.set_cons_succ, i64_w, i32_w]
            rfl
          refine pure_ (i := 3) (N := some 67) (v := ?_) (a' := ?_) #[true, true, false, true, false, false, false, false, false, false, false, false, false] rfl rfl (by kernel_rfl) (fun _ _ _ h => h) (Or.inl ⟨by rfl, ?_⟩) ?_ ?_
          rotate_left
          · intro w'
            go_simp
            with_reducible rfl
          rotate_left
          · simp only [Act.put, List.setIfInBounds_toArray, List.set_cons_zero, List.set_cons_succ, i64_w, i32_w]
            rfl
          refine pure_ (i := 6) (N := some 70) (v := ?_) (a' := ?_) #[true, true, false, true, false, false, true, false, false, false, false, false, false] rfl rfl (by kernel_rfl) (fun _ _ _ h => h) (Or.inl ⟨by rfl, ?_⟩) ?_ ?_
          rotate_left
          · intro w'
            go_simp
            with_reducible rfl
          rotate_left
          · simp only [Act.put, List.setIfInBounds_toArray, List.set_cons_zero, List.set_cons_succ, i64_w, i32_w]
            rfl
          refine pure_ (i := 8) (N := some 72) (v := ?_) (a' := ?_) #[true, true, false, true, false, false, true, false, true, false, false, false, false] rfl rfl (by kernel_rfl) (fun _ _ _ h => h) (Or.inl ⟨by rfl, ?_⟩) ?_ ?_
          rotate_left
          · intro w'
            go_simp
            with_reducible rfl
          rotate_left
          · simp only [Act.put, List.setIfInBounds_toArray, List.set_cons_zero, List.set_cons_succ, i64_w, i32_w]
            rfl
          refine take_ (i := 2) (N := some 66) (v := ?_) (a' := ?_) #[true, true, true, true, false, false, true, false, true, false, false, false, false] rfl rfl (by kernel_rfl) (fun _ _ _ h => h) (Or.inl ⟨by rfl, ?_⟩) hHeld ?_ ?_
          rotate_left
          · rintro w' ⟨s0, s1, s2, s3, s4, s5, s6, s7, s8, s9⟩
            go_simp
            with_reducible rfl
          rotate_left
          · simp only [Act.put, List.setIfInBounds_toArray, List.set_cons_zero, List.set_cons_succ, i64_w, i32_w]
            rfl
          refine pure_ (i := 4) (N := some 68) (v := ?_) (a' := ?_) #[true, true, true, true, true, false, true, false, true, false, false, false, false] rfl rfl (by kernel_rfl) (fun _ _ _ h => h) (Or.inl ⟨by rfl, ?_⟩) ?_ ?_
          rotate_left
          · intro w'
            go_simp
            with_reducible rfl
          rotate_left
          · simp only [Act.put, List.setIfInBounds_toArray, List.set_cons_zero, List.set_cons_succ, i64_w, i32_w]
            rfl
          refine take_ (i := 5) (N := some 69) (v := ?_) (a' := ?_) #[true, true, true, true, true, true, true, false, true, false, false, false, false] rfl rfl (by kernel_rfl) (fun _ _ _ h => h) (Or.inl ⟨by rfl, ?_⟩) hHeld ?_ ?_
          rotate_left
          · rintro w' ⟨s0, s1, s2, s3, s4, s5, s6, s7, s8, s9⟩
            go_simp
            with_reducible rfl
          rotate_left
          · simp only [Act.put, List.setIfInBounds_toArray, List.set_cons_zero, List.set_cons_succ, i64_w, i32_w]
            rfl
          refine take_ (i := 7) (N := some 71) (v := ?_) (a' := ?_) #[true, true, true, true, true, true, true, true, true, false, false, false, false] rfl rfl (by kernel_rfl) (fun _ _ _ h => h) (Or.inl ⟨by rfl, ?_⟩) hHeld ?_ ?_
          rotate_left
          · rintro w' ⟨s0, s1, s2, s3, s4, s5, s6, s7, s8, s9⟩
            go_simp
            with_reducible rfl
          rotate_left
          · simp only [Act.put, List.setIfInBounds_toArray, List.set_cons_zero, List.set_cons_succ, i64_w, i32_w]
            rfl
          refine pure_ (i := 9) (N := some 73) (v := ?_) (a' := ?_) #[true, true, true, true, true, true, true, true, true, true, false, false, false] rfl rfl (by kernel_rfl) (fun _ _ _ h => h) (Or.inl ⟨by rfl, ?_⟩) ?_ ?_
          rotate_left
          · intro w'
            go_simp
            with_reducible rfl
          rotate_left
          · simp only [Act.put, List.setIfInBounds_toArray, List.set_cons_zero, List.set_cons_succ, i64_w, i32_w]
            rfl
          refine take_ (i := 10) (N := some 74) (v := ?_) (a' := ?_) #[true, true, true, true, true, true, true, true, true, true, true, false, false] rfl rfl (by kernel_rfl) (fun _ _ _ h => h) (Or.inl ⟨by rfl, ?_⟩) hHeld ?_ ?_
          rotate_left
          · rintro w' ⟨s0, s1, s2, s3, s4, s5, s6, s7, s8, s9⟩
            go_simp
            with_reducible rfl
          rotate_left
          · simp only [Act.put, List.setIfInBounds_toArray, List.set_cons_zero, List.set_cons_succ, i64_w, i32_w]
            rfl
          refine one_ (i := 11) (N := some 75) #[true, true, true, true, true, true, true, true, true, true, true, true, false] rfl rfl (by kernel_rfl) (by decide) (fun K hK => ?_)
          refine goes_ Tryd.func89 (by kernel_rfl) rfl #[.slice A l.length c, .agg #[.int .i64 x.f0.f0, .bool x.f0.f1, .int .i64 x.f0.f2, .bool x.f1], .agg #[.int .i64 y.f0.f0, .bool y.f0.f1, .int .i64 y.f0.f2, .bool y.f1]] (by rfl) rfl rfl (by simp only [List.map_toArray, List.map_cons, List.map_nil]; rfl) ?_
          refine (r7field_calls A c l x y w5 (HL.out.below BE.out) HC.out).mono ?_
          rintro e w6 ⟨rfl, hb6⟩
          have B6 := Aside0.mk (BD.out.trans (hb6.mono BD.out.size))
          refine ⟨_, rfl, ?_⟩
          refine hK.out _ _ ⟨(hb6.cell (World.block_lt_of_cell? w5 _ z03)).trans z03, (hb6.cell (World.block_lt_of_cell? w5 _ z13)).trans z13, (hb6.cell (World.block_lt_of_cell? w5 _ d0)).trans d0, (hb6.cell (World.block_lt_of_cell? w5 _ d1)).trans d1, (hb6.cell (World.block_lt_of_cell? w5 _ d2)).trans d2, (hb6.cell (World.block_lt_of_cell? w5 _ d3)).trans d3, (hb6.cell (World.block_lt_of_cell? w5 _ g0)).trans g0, (hb6.cell (World.block_lt_of_cell? w5 _ g1)).trans g1, (hb6.cell (World.block_lt_of_cell? w5 _ g2)).trans g2, (hb6.cell (World.block_lt_of_cell? w5 _ g3)).trans g3⟩ (fun hHeld => ?_)
          clear hK K
          refine norm_ (a' := ?_) ?_ ?_
          rotate_left
          · show Act.put _ (some 75) _ = _
            simp only [Act.put, List.setIfInBounds_toArray, List.set_cons_zero, List.set_cons_succ, i64_w, i32_w]
            rfl
          refine pure_ (i := 12) (N := some 76) (v := ?_) (a' := ?_) #[true, true, true, true, true, true, true, true, true, true, true, true, true] rfl rfl (by kernel_rfl) (fun _ _ _ h => h) (Or.inl ⟨by rfl, ?_⟩) ?_ ?_
          rotate_left
          · intro w'
            go_simp
            with_reducible rfl
          rotate_left
          · simp only [Act.put, List.setIfInBounds_toArray, List.set_cons_zero, List.set_cons_succ, i64_w, i32_w]
            rfl
          refine done_ (by kernel_rfl) ?_
          
          clear z03 z13 d0 d1 d2 d3 g0 g1 g2 g3
          cases hv : fieldM l x y with
          | false =>
            have EF : Aside0 (compM l a b = false) := ⟨by rw [EV.out]; exact zip_stop XA.out XB.out hv⟩
            clear hv
            go_wp2_with fail
            go_ret
            exact ⟨by rw [EF.out]; rfl, B1.out.trans (B6.out.mono B1.out.size)⟩
          | true =>
            have ES : Aside0 (((a.f3.zip b.f3).take (k + 1)).all (fun p => fieldM l p.1 p.2) = true) := ⟨by rw [zip_snoc XA.out XB.out, ALL.out, hv]; rfl⟩
            clear hv
            go_wp2_with fail
            go_roundw
            case rel => exact ⟨k + 1, by go_num, by omega, ES.out, B6.out⟩
            case measure => simp [intOf]; omega
        · obtain rfl : k = b.f3.length := by omega
          have EF : Aside0 (compM l a b = true) := ⟨by
            have h := ALL.out
            rw [List.take_of_length_le (by rw [List.length_zip]; omega)] at h
            rw [EV.out]; exact h⟩
          clear hkk hlk
          go_wp2_with fail
          go_ret
          exact ⟨by rw [EF.out]; rfl, W0.out⟩
    · by_cases k3 : a.f0 = 3
      · have kb3 : b.f0 = 3 := by omega
        have EV0 : Aside0 (compM l a b = (decide (a.f3.length = 1) && decide (b.f3.length = 1) && (a.f3.zip b.f3).all fun p => fieldM l p.1 p.2)) := ⟨by simp [compM, hk.symm, k3]⟩
        rw [k3] at z00
        rw [kb3] at z10
        clear e1 hk
        by_cases hla : a.f3.length = 1
        rotate_left
        · have EF : Aside0 (compM l a b = false) := ⟨by rw [EV0.out]; simp [hla]⟩
          have e2 : ((a.f3.length : Int) != 1) = true := by simp; omega
          go_wp2_with fail
          go_ret
          exact ⟨by rw [EF.out]; rfl, B1.out⟩
        have e2 : ((a.f3.length : Int) != 1) = false := by simp; omega
        by_cases hlb : b.f3.length = 1
        rotate_left
        · have EF : Aside0 (compM l a b = false) := ⟨by rw [EV0.out]; simp [hlb]⟩
          have e3 : ((b.f3.length : Int) != 1) = true := by simp; omega
          go_wp2_with fail
          go_ret
          exact ⟨by rw [EF.out]; rfl, B1.out⟩
        have e3 : ((b.f3.length : Int) != 1) = false := by simp; omega
        have EV : Aside0 (compM l a b = (a.f3.zip b.f3).all fun p => fieldM l p.1 p.2) := ⟨by rw [EV0.out]; simp [hla, hlb]⟩
        have HLE : Aside0 (b.f3.length ≤ a.f3.length) := ⟨by omega⟩
        have hlb' := HB.out.lf
        clear hla hlb
        go_wp2_with fail
        clear e2 e3
        go_loopw [7] (fun i W => ∃ (k : Nat), i = .int .i64 k ∧ k ≤ b.f3.length ∧ ((a.f3.zip b.f3).take k).all (fun p => fieldM l p.1 p.2) = true ∧ Below w1.heap.size w1 W) (fun i _ => b.f3.length - (intOf i).toNat)
        case atStart => exact ⟨0, rfl, Nat.zero_le _, by simp, Below.refl _ _⟩
        case round =>
          clear z00 z01 z02 z03 z10 z11 z12 z13
          obtain ⟨k, rfl, hkk, hall, hbw⟩ := hrel
          have ALL := Aside0.mk hall
          have W1 := Aside0.mk hbw
          have W0 : Aside0 (Below w.heap.size w wr) := ⟨B1.out.trans (hbw.mono B1.out.size)⟩
          have z03 : wr.cell? ⟨w.heap.size, 3, none⟩ = some (.slice F1 a.f3.length f1) := (blk_cell (blk_below Q.out.1 hbw) 3).trans rfl
          have z13 : wr.cell? ⟨w.heap.size + 1, 3, none⟩ = some (.slice F2 b.f3.length f2) := (blk_cell (blk_below Q.out.2 hbw) 3).trans rfl
          clear hall hbw
          have k0 : (0 : Int) ≤ (k : Int) := Int.natCast_nonneg k
          by_cases hlk : k < b.f3.length
          · obtain ⟨aa, ea, d0, d1, d2, d3⟩ := at_T118 HA.out.f (k : Int) k0 (by have := HLE.out; omega)
            obtain ⟨ab, eb, g0, g1, g2, g3⟩ := at_T118 HB.out.f (k : Int) k0 (by omega)
            subst ea
            subst eb
            have XA : Aside0 (a.f3[k]? = some (rd_T118 a.f3 (k : Int))) := ⟨rd_FT_at a.f3 k (by have := HLE.out; omega)⟩
            have XB : Aside0 (b.f3[k]? = some (rd_T118 b.f3 (k : Int))) := ⟨rd_FT_at b.f3 k hlk⟩
            obtain ⟨x, hx⟩ : ∃ x, x = rd_T118 a.f3 (k : Int) := ⟨_, rfl⟩
            obtain ⟨y, hy⟩ : ∃ y, y = rd_T118 b.f3 (k : Int) := ⟨_, rfl⟩
            rw [← hx] at d0 d1 d2 d3 XA
            rw [← hy] at g0 g1 g2 g3 XB
            clear hx hy
            simp only [Int.toNat_natCast] at d0 d1 d2 d3 g0 g1 g2 g3
            replace d0 := (W0.out.cell (World.block_lt_of_cell? w _ d0)).trans d0
            replace d1 := (W0.out.cell (World.block_lt_of_cell? w _ d1)).trans d1
            replace d2 := (W0.out.cell (World.block_lt_of_cell? w _ d2)).trans d2
            replace d3 := (W0.out.cell (World.block_lt_of_cell? w _ d3)).trans d3
            replace g0 := (W0.out.cell (World.block_lt_of_cell? w _ g0)).trans g0
            replace g1 := (W0.out.cell (World.block_lt_of_cell? w _ g1)).trans g1
            replace g2 := (W0.out.cell (World.block_lt_of_cell? w _ g2)).trans g2
            replace g3 := (W0.out.cell (World.block_lt_of_cell? w _ g3)).trans g3
            have kl : (k : Int) < (b.f3.length : Int) := by omega
            have ka : (k : Int) < (a.f3.length : Int) := by have := HLE.out; omega
            go_wp2_with fail
            refine start_ (n := 13) (S := fun w' => w'.cell? ⟨w.heap.size, 3, none⟩ = some (.slice (some aa) a.f3.length f1) ∧ w'.cell? ⟨w.heap.size + 1, 3, none⟩ = some (.slice (some ab) b.f3.length f2) ∧ w'.cell? (aa.add (k * 4)) = some (.int .i64 x.f0.f0) ∧ w'.cell? ⟨(aa.add (k * 4)).block, (aa.add (k * 4)).off + 1, none⟩ = some (.bool x.f0.f1) ∧ w'.cell? ⟨(aa.add (k * 4)).block, (aa.add (k * 4)).off + 2, none⟩ = some (.int .i64 x.f0.f2) ∧ w'.cell? ⟨(aa.add (k * 4)).block, (aa.add (k * 4)).off + 3, none⟩ = some (.bool x.f1) ∧ w'.cell? (ab.add (k * 4)) = some (.int .i64 y.f0.f0) ∧ w'.cell? ⟨(ab.add (k * 4)).block, (ab.add (k * 4)).off + 1, none⟩ = some (.bool y.f0.f1) ∧ w'.cell? ⟨(ab.add (k * 4)).block, (ab.add (k * 4)).off + 2, none⟩ = some (.int .i64 y.f0.f2) ∧ w'.cell? ⟨(ab.add (k * 4)).block, (ab.add (k * 4)).off + 3, none⟩ = some (.bool y.f1)) (ds := []) #[false, false, false, false, false, false, false, false, false, false, false, false, false] (by kernel_rfl) rfl rfl ⟨z03, z13, d0, d1, d2, d3, g0, g1, g2, g3⟩ (fun hHeld => ?_)
            have BD : Aside0 (Below w1.heap.size w1 wr.drew) := ⟨W1.out.drew⟩
            have BE : Aside0 (Below w.heap.size w wr.drew) := ⟨W0.out.drew⟩
            replace z03 : wr.drew.cell? _ = _ := z03
            replace z13 : wr.drew.cell? _ = _ := z13
            replace d0 : wr.drew.cell? _ = _ := d0
            replace d1 : wr.drew.cell? _ = _ := d1
            replace d2 : wr.drew.cell? _ = _ := d2
            replace d3 : wr.drew.cell? _ = _ := d3
            replace g0 : wr.drew.cell? _ = _ := g0
            replace g1 : wr.drew.cell? _ = _ := g1
            replace g2 : wr.drew.cell? _ = _ := g2
            replace g3 : wr.drew.cell? _ = _ := g3
            generalize wr.drew = w5 at BD BE z03 z13 d0 d1 d2 d3 g0 g1 g2 g3 hHeld ⊢
            refine pure_ (i := 0) (N := some 64) (v := ?_) (a' := ?_) #[true, false, false, false, false, false, false, false, false, false, false, false, false] rfl rfl (by kernel_rfl) (fun _ _ _ h => h) (Or.inl ⟨by rfl, ?_⟩) ?_ ?_
            rotate_left
            · intro w'
              go_simp
              with_reducible rfl
            rotate_left
            · simp only [Act.put, List.setIfInBounds_toArray, List.set_cons_zero, List.set_cons_succ, i64_w, i32_w]
              rfl
            refine pure_ (i := 1) (N := some 65) (v := ?_) (a' := ?_) #[true, true, false, false, false, false, false, false, false, false, false, false, false] rfl rfl (by kernel_rfl) (fun _ _ _ h => h) (Or.inl ⟨by rfl, ?_⟩) ?_ ?_
            rotate_left
            · intro w'
              go_simp
              with_reducible rfl
            rotate_left
            · simp only [Act.put, List.setIfInBounds_toArray, List.set_cons_zero, List.set_cons_succ, i64_w, i32_w]
              rfl
            refine pure_ (i := 3) (N := some 67) (v := ?_) (a' := ?_) #[true, true, false, true, false, false, false, false, false, false, false, false, false] rfl rfl (by kernel_rfl) (fun _ _ _ h => h) (Or.inl ⟨by rfl, ?_⟩) ?_ ?_
            rotate_left
            · intro w'
              go_simp
              with_reducible rfl
            rotate_left
            · simp only [Act.put, List.setIfInBounds_toArray, List.set_cons_zero, List.set_cons_succ, i64_w, i32_w]
              rfl
            refine pure_ (i := 6) (N := some 70) (v := ?_) (a' := ?_) #[true, true, false, true, false, false, true, false, false, false, false, false, false] rfl rfl (by kernel_rfl) (fun _ _ _ h => h) (Or.inl ⟨by rfl, ?_⟩) ?_ ?_
            rotate_left
            · intro w'
              go_simp
              with_reducible rfl
            rotate_left
            · simp only [Act.put, List.setIfInBounds_toArray, List.set_cons_zero, List.set_cons_succ, i64_w, i32_w]
              rfl
            refine pure_ (i := 8) (N := some 72) (v := ?_) (a' := ?_) #[true, true, false, true, false, false, true, false, true, false, false, false, false] rfl rfl (by kernel_rfl) (fun _ _ _ h => h) (Or.inl ⟨by rfl, ?_⟩) ?_ ?_
            rotate_left
            · intro w'
              go_simp
              with_reducible rfl
            rotate_left
            · simp only [Act.put, List.setIfInBounds_toArray, List.set_cons_zero, List.set_cons_succ, i64_w, i32_w]
              rfl
            refine take_ (i := 2) (N := some 66) (v := ?_) (a' := ?_) #[true, true, true, true, false, false, true, false, true, false, false, false, false] rfl rfl (by kernel_rfl) (fun _ _ _ h => h) (Or.inl ⟨by rfl, ?_⟩) hHeld ?_ ?_
            rotate_left
            · rintro w' ⟨s0, s1, s2, s3, s4, s5, s6, s7, s8, s9⟩
              go_simp
              with_reducible rfl
            rotate_left
            · simp only [Act.put, List.setIfInBounds_toArray, List.set_cons_zero, List.set_cons_succ, i64_w, i32_w]
              rfl
            refine pure_ (i := 4) (N := some 68) (v := ?_) (a' := ?_) #[true, true, true, true, true, false, true, false, true, false, false, false, false] rfl rfl (by kernel_rfl) (fun _ _ _ h => h) (Or.inl ⟨by rfl, ?_⟩) ?_ ?_
            rotate_left
            · intro w'
              go_simp
              with_reducible rfl
            rotate_left
            · simp only [Act.put, List.setIfInBounds_toArray, List.set_cons_zero, List.set_cons_succ, i64_w, i32_w]
              rfl
            refine take_ (i := 5) (N := some 69) (v := ?_) (a' := ?_) #[true, true, true, true, true, true, true, false, true, false, false, false, false] rfl rfl (by kernel_rfl) (fun _ _ _ h => h) (Or.inl ⟨by rfl, ?_⟩) hHeld ?_ ?_
            rotate_left
            · rintro w' ⟨s0, s1, s2, s3, s4, s5, s6, s7, s8, s9⟩
              go_simp
              with_reducible rfl
            rotate_left
            · simp only [Act.put, List.setIfInBounds_toArray, List.set_cons_zero, List.set_cons_succ, i64_w, i32_w]
              rfl
            refine take_ (i := 7) (N := some 71) (v := ?_) (a' := ?_) #[true, true, true, true, true, true, true, true, true, false, false, false, false] rfl rfl (by kernel_rfl) (fun _ _ _ h => h) (Or.inl ⟨by rfl, ?_⟩) hHeld ?_ ?_
            rotate_left
            · rintro w' ⟨s0, s1, s2, s3, s4, s5, s6, s7, s8, s9⟩
              go_simp
              with_reducible rfl
            rotate_left
            · simp only [Act.put, List.setIfInBounds_toArray, List.set_cons_zero, List.set_cons_succ, i64_w, i32_w]
              rfl
            refine pure_ (i := 9) (N := some 73) (v := ?_) (a' := ?_) #[true, true, true, true, true, true, true, true, true, true, false, false, false] rfl rfl (by kernel_rfl) (fun _ _ _ h => h) (Or.inl ⟨by rfl, ?_⟩) ?_ ?_
            rotate_left
            · intro w'
              go_simp
              with_reducible rfl
            rotate_left
            · simp only [Act.put, List.setIfInBounds_toArray, List.set_cons_zero, List.set_cons_succ, i64_w, i32_w]
              rfl
            refine take_ (i := 10) (N := some 74) (v := ?_) (a' := ?_) #[true, true, true, true, true, true, true, true, true, true, true, false, false] rfl rfl (by kernel_rfl) (fun _ _ _ h => h) (Or.inl ⟨by rfl, ?_⟩) hHeld ?_ ?_
            rotate_left
            · rintro w' ⟨s0, s1, s2, s3, s4, s5, s6, s7, s8, s9⟩
              go_simp
              with_reducible rfl
            rotate_left
            · simp only [Act.put, List.setIfInBounds_toArray, List.set_cons_zero, List.set_cons_succ, i64_w, i32_w]
              rfl
            refine one_ (i := 11) (N := some 75) #[true, true, true, true, true, true, true, true, true, true, true, true, false] rfl rfl (by kernel_rfl) (by decide) (fun K hK => ?_)
            refine goes_ Tryd.func89 (by kernel_rfl) rfl #[.slice A l.length c, .agg #[.int .i64 x.f0.f0, .bool x.f0.f1, .int .i64 x.f0.f2, .bool x.f1], .agg #[.int .i64 y.f0.f0, .bool y.f0.f1, .int .i64 y.f0.f2, .bool y.f1]] (by rfl) rfl rfl (by simp only [List.map_toArray, List.map_cons, List.map_nil]; rfl) ?_
            refine (r7field_calls A c l x y w5 (HL.out.below BE.out) HC.out).mono ?_
            rintro e w6 ⟨rfl, hb6⟩
            have B6 := Aside0.mk (BD.out.trans (hb6.mono BD.out.size))
            refine ⟨_, rfl, ?_⟩
            refine hK.out _ _ ⟨(hb6.cell (World.block_lt_of_cell? w5 _ z03)).trans z03, (hb6.cell (World.block_lt_of_cell? w5 _ z13)).trans z13, (hb6.cell (World.block_lt_of_cell? w5 _ d0)).trans d0, (hb6.cell (World.block_lt_of_cell? w5 _ d1)).trans d1, (hb6.cell (World.block_lt_of_cell? w5 _ d2)).trans d2, (hb6.cell (World.block_lt_of_cell? w5 _ d3)).trans d3, (hb6.cell (World.block_lt_of_cell? w5 _ g0)).trans g0, (hb6.cell (World.block_lt_of_cell? w5 _ g1)).trans g1, (hb6.cell (World.block_lt_of_cell? w5 _ g2)).trans g2, (hb6.cell (World.block_lt_of_cell? w5 _ g3)).trans g3⟩ (fun hHeld => ?_)
            clear hK K
            refine norm_ (a' := ?_) ?_ ?_
            rotate_left
            · show Act.put _ (some 75) _ = _
              simp only [Act.put, List.setIfInBounds_toArray, List.set_cons_zero, List.set_cons_succ, i64_w, i32_w]
              rfl
            refine pure_ (i := 12) (N := some 76) (v := ?_) (a' := ?_) #[true, true, true, true, true, true, true, true, true, true, true, true, true] rfl rfl (by kernel_rfl) (fun _ _ _ h => h) (Or.inl ⟨by rfl, ?_⟩) ?_ ?_
            rotate_left
            · intro w'
              go_simp
              with_reducible rfl
            rotate_left
            · simp only [Act.put, List.setIfInBounds_toArray, List.set_cons_zero, List.set_cons_succ, i64_w, i32_w]
              rfl
            refine done_ (by kernel_rfl) ?_
            
            clear z03 z13 d0 d1 d2 d3 g0 g1 g2 g3
            cases hv : fieldM l x y with
            | false =>
              have EF : Aside0 (compM l a b = false) := ⟨by rw [EV.out]; exact zip_stop XA.out XB.out hv⟩
              clear hv
              go_wp2_with fail
              go_ret
              exact ⟨by rw [EF.out]; rfl, B1.out.trans (B6.out.mono B1.out.size)⟩
            | true =>
              have ES : Aside0 (((a.f3.zip b.f3).take (k + 1)).all (fun p => fieldM l p.1 p.2) = true) := ⟨by rw [zip_snoc XA.out XB.out, ALL.out, hv]; rfl⟩
              clear hv
              go_wp2_with fail
              go_roundw
              case rel => exact ⟨k + 1, by go_num, by omega, ES.out, B6.out⟩
              case measure => simp [intOf]; omega
          · obtain rfl : k = b.f3.length := by omega
            have EF : Aside0 (compM l a b = true) := ⟨by
              have h := ALL.out
              rw [List.take_of_length_le (by rw [List.length_zip]; omega)] at h
              rw [EV.out]; exact h⟩
            clear hkk hlk
            go_wp2_with fail
            go_ret
            exact ⟨by rw [EF.out]; rfl, W0.out⟩
      · have EF : Aside0 (compM l a b = false) := ⟨by simp [compM, hk.symm, k1, k2, k3]⟩
        have n1 : (a.f0 == 1) = false := by simp [k1]
        have n2 : (a.f0 == 2) = false := by simp [k2]
        have n3 : (a.f0 == 3) = false := by simp [k3]
        go_wp2_with fail
        go_ret
        exact ⟨by rw [EF.out]; rfl, B1.out⟩
/-- Below n, types declare types ahead of them. -/
def Down (l : List S62) (n : Int) : Prop := ∀ x : Int, 0 ≤ x → x < n → ∀ y ∈ (tyAt l x).f1, y < x
def depthM (l : List S62) (n : Int) : Int := ((chain l ((flat l).length + 1) n).length : Int) - 1
noncomputable def declM (l : List S62) (n : Int) : Int :=
  if ∃ h ∈ (tyAt l n).f1, n ≤ h then 50
  else if 1 < (tyAt l n).f1.length then 1
  else match (tyAt l n).f1 with
    | [] => 0
    | o :: _ => if (tyAt l o).f0 = true then 70 else if 63 ≤ depthM l o then 72 else if compM l (tyAt l n).f2 (tyAt l o).f2 = true then 0 else 71
set_option maxRecDepth 100000 in
set_option maxHeartbeats 4000000 in
theorem r7depth_calls (A : Option Addr) (c : Nat) (l : List S62) (n : Int) (w : World) (hl : LA w A c l) (hc : Clo l) (n0 : 0 ≤ n) (n1 : n < ((flat l).length : Int)) (hd : Down l (n + 1)) :
    Calls Tryd.prog 69 #[.slice A l.length c, .int .i64 n] w fun e w' => e = .returned (.int .i64 (depthM l n)) ∧ Below w.heap.size w w' := by
  have HL := Aside0.mk hl
  have HC := Aside0.mk hc
  have HD := Aside0.mk hd
  have hll := hl.flat_le
  obtain ⟨m, hm⟩ : ∃ m, m = (flat l).length := ⟨_, rfl⟩
  have HM := Aside0.mk hm
  have K := r7above_calls A c l n w hl n0 n1
  rw [← hm] at n1 hll
  obtain ⟨u0, b0, hab⟩ : ∃ u b, aboveV (tyAt l n).f1 = .tuple #[.int .i64 u, .bool b] := by rcases (tyAt l n).f1 with _ | ⟨y, t⟩ <;> exact ⟨_, _, rfl⟩
  have HAB := Aside0.mk hab
  rw [hab] at K
  clear hl hc hd hm hab
  go_enter Tryd.func69, Tryd.ntmps69
  go_wp2_with fail
  refine K.mono ?_
  rintro e w1 ⟨rfl, hb⟩
  have B1 := Aside0.mk hb
  clear hb K
  go_wp2_with fail
  go_loopw [5, 6, 7] (fun d up ok W => ∃ (j : Nat) (x u : Int) (b : Bool) (p : List Int), d = .int .i64 j ∧ up = .int .i64 u ∧ ok = .bool b ∧ aboveV (tyAt l x).f1 = .tuple #[.int .i64 u, .bool b] ∧ (0 ≤ x ∧ x + j ≤ n) ∧ (p.length = j ∧ p ++ chain l (m + 1 - j) x = chain l (m + 1) n) ∧ Below w.heap.size w W) (fun d _ _ _ => n.toNat + 1 - (intOf d).toNat)
  case atStart => exact ⟨0, n, u0, b0, [], rfl, rfl, rfl, HAB.out, ⟨n0, by simp⟩, ⟨rfl, rfl⟩, B1.out⟩
  case round =>
    clear HAB
    obtain ⟨j, x, u, b, p, rfl, rfl, rfl, hab, ⟨x0, xj⟩, ⟨hpl, hch⟩, hbw⟩ := hrel
    have W0 := Aside0.mk hbw
    have HPL := Aside0.mk hpl
    have HCH := Aside0.mk hch
    have hjm : m + 1 - j = (m - j) + 1 := by omega
    rw [hjm] at hch
    have j0 : (0 : Int) ≤ (j : Int) := Int.natCast_nonneg j
    have hwj : wrap64 ((j : Int) + 1) = (j : Int) + 1 := by unfold wrap64; omega
    rcases hz : (tyAt l x).f1 with _ | ⟨y, t⟩
    · rw [hz] at hab
      rw [chain_end _ hz] at hch
      simp only [aboveV, Value.tuple.injEq] at hab
      have hb0 : b = false := by simp at hab; exact hab.2
      subst hb0
      have ED : Aside0 (depthM l n = (j : Int)) := ⟨by unfold depthM; rw [← HM.out, ← hch, List.length_append, HPL.out]; simp⟩
      clear hab hch hbw hpl hz
      go_wp2_with fail
      go_ret
      exact ⟨by rw [ED.out]; rfl, W0.out⟩
    · rw [hz] at hab
      rw [chain_on _ hz] at hch
      have hy1 := tyAt_supers HC.out x0 (by rw [← HM.out]; omega) y (by rw [hz]; simp)
      have hy2 := HD.out x x0 (by omega) y (by rw [hz]; simp)
      simp only [aboveV, Value.tuple.injEq] at hab
      have hb0 : b = true := by simp at hab; exact hab.2
      have hu0 : u = y := by simp at hab; exact hab.1.symm
      subst hb0
      subst hu0
      have KA := r7above_calls A c l u wr (HL.out.below hbw) hy1.1 hy1.2
      obtain ⟨u1, b1, hab1⟩ : ∃ u1 b1, aboveV (tyAt l u).f1 = .tuple #[.int .i64 u1, .bool b1] := by rcases (tyAt l u).f1 with _ | ⟨y, t⟩ <;> exact ⟨_, _, rfl⟩
      have HAB := Aside0.mk hab1
      have HCE := Aside0.mk hch
      rw [hab1] at KA
      clear hab hch hbw hpl hz hab1
      go_wp2_with fail
      refine KA.mono ?_
      rintro e w2 ⟨rfl, hb⟩
      have W2 := Aside0.mk (W0.out.trans (hb.mono W0.out.size))
      clear hb KA
      go_wp2_with fail
      go_roundw
      case rel => exact ⟨j + 1, u, u1, b1, p ++ [x], by go_num, rfl, rfl, HAB.out, ⟨hy1.1, by push_cast; omega⟩, ⟨by rw [List.length_append, HPL.out]; rfl, by have e_ : m + 1 - (j + 1) = m - j := (by omega); rw [e_, List.append_assoc]; exact HCE.out⟩, W2.out⟩
      case measure => simp [intOf]; omega
/-- The bounds of a composite type that came in. -/
theorem cin2_of {w : World} {l : List S62} {A : Option Addr} {c : Nat} (hl : LA w A c l) {n : Int} (n0 : 0 ≤ n) (n1 : n < ((flat l).length : Int)) {A1 : Option Addr} {c1 : Nat} {A3 : Option Addr} {c3 : Nat} {A4 : Option Addr} {c4 : Nat} {A5 : Option Addr} {c5 : Nat} (h : TyIn w (tyAt l n) A1 c1 A3 c3 A4 c4 A5 c5) : CIn2 w (tyAt l n).f2 A3 A4 A5 ∧ (tyAt l n).f1.length ≤ 1048576 := by
  obtain ⟨_, ⟨_, h3⟩, ⟨_, h4⟩, _, h5⟩ := h.open
  obtain ⟨j, r, p, hj, hr, he, hp⟩ := place_of l l.length n.toNat (Nat.le_refl _) (by rw [List.take_length, ← flat_length]; omega)
  have h6 : (flat l)[n.toNat]? = r.f0[p]? := by rw [he]; exact flat_get hr hp
  have h7 : tyAt l n = r.f0[p] := by
    unfold tyAt rd_T53
    rw [List.getD_eq_getElem?_getD, h6, List.getElem?_eq_getElem hp]
    rfl
  have hw := hl.w
  have hr' := List.mem_of_getElem? hr
  have hs : wS (tyAt l n) ≤ 1048576 := by
    rw [h7]
    have a1 := wS_le_wG (List.getElem_mem hp)
    have a2 := wG_le_wL hr'
    omega
  unfold wS at hs
  exact ⟨⟨h3, h4, h5, by omega, by omega, by omega⟩, by omega⟩
set_option maxRecDepth 100000 in
set_option maxHeartbeats 8000000 in
theorem r7declared_calls (A : Option Addr) (c : Nat) (l : List S62) (n : Int) (w : World) (hl : LA w A c l) (hc : Clo l) (n0 : 0 ≤ n) (n1 : n < ((flat l).length : Int)) (hd : Down l n) :
    Calls Tryd.prog 52 #[.slice A l.length c, .int .i64 n] w fun e w' => e = .returned (.int .i64 (declM l n)) ∧ Below w.heap.size w w' := by
  have HL := Aside0.mk hl
  have HC := Aside0.mk hc
  have HD := Aside0.mk hd
  have N01 := Aside0.mk (And.intro n0 n1)
  have K := r5At_calls A c l n w hl n0 n1
  clear hl hc hd
  go_enter Tryd.func52, Tryd.ntmps52
  go_wp2_with fail
  refine K.mono ?_
  rintro e w1 ⟨A1, c1, A3, c3, A4, c4, A5, c5, i0, p0, rfl, hty, hb⟩
  obtain ⟨hcin, hslen⟩ := cin2_of HL.out n0 n1 hty
  obtain ⟨⟨m1, r1⟩, _⟩ := hty.open
  obtain ⟨s, hs⟩ : ∃ s, s = tyAt l n := ⟨_, rfl⟩
  rw [← hs] at r1 m1 hcin hslen
  have HS := Aside0.mk hs
  have R1 := Aside0.mk r1
  have CI := Aside0.mk hcin
  obtain ⟨W2, hW2⟩ : ∃ W2, W2 = (w1.alloc (.cells #[.bool s.f0, .slice A1 s.f1.length c1, .int .i64 s.f2.f0, .slice A3 s.f2.f1.length c3, .slice A4 s.f2.f2.length c4, .slice A5 s.f2.f3.length c5] 53)) := ⟨_, rfl⟩
  have B2 : Aside0 (Below w.heap.size w W2) := ⟨by rw [hW2]; exact hb.alloc hb.size _⟩
  have Q2 : Aside0 (W2.heap[w1.heap.size]? = some (.cells #[.bool s.f0, .slice A1 s.f1.length c1, .int .i64 s.f2.f0, .slice A3 s.f2.f1.length c3, .slice A4 s.f2.f2.length c4, .slice A5 s.f2.f3.length c5] 53 (0, 0))) := ⟨by rw [hW2]; exact blk_new w1 _⟩
  rw [← hs]
  clear hty K hb r1 m1 hcin n0 n1 hs
  go_wp2_with fail
  rw [← hW2]
  clear hW2
  go_loopw [9] (fun i W => ∃ (k : Nat), i = .int .i64 k ∧ k ≤ s.f1.length ∧ (∀ y ∈ s.f1.take k, y < n) ∧ W = W2) (fun i _ => s.f1.length - (intOf i).toNat)
  case atStart => exact ⟨0, rfl, Nat.zero_le _, (fun y hy => by simp at hy), rfl⟩
  case round =>
    obtain ⟨k, rfl, hk, hall, rfl⟩ := hrel
    have ALL := Aside0.mk hall
    clear hall
    have k0 : (0 : Int) ≤ (k : Int) := Int.natCast_nonneg k
    have z1 : wr.cell? ⟨w1.heap.size, 1, none⟩ = some (.slice A1 s.f1.length c1) := (blk_cell Q2.out 1).trans rfl
    by_cases hlk : k < s.f1.length
    · obtain ⟨ai, y, eA, hy, hcy⟩ := at_int' R1.out k hlk
      subst eA
      replace hcy := (B2.out.cell (World.block_lt_of_cell? w _ hcy)).trans hcy
      have YM := Aside0.mk hy
      have kl : (k : Int) < (s.f1.length : Int) := by omega
      clear hy
      by_cases hyn : n ≤ y
      · have ED : Aside0 (declM l n = 50) := ⟨by unfold declM; rw [← HS.out, if_pos ⟨y, List.mem_of_getElem? YM.out, hyn⟩]⟩
        go_wp2_with fail
        go_ret
        exact ⟨by rw [ED.out]; rfl, B2.out⟩
      · go_wp2_with fail
        go_roundw
        case rel => exact ⟨k + 1, by go_num, by omega, (fun z hz => by rw [List.take_add_one, YM.out] at hz; rcases List.mem_append.1 hz with h | h; (· exact ALL.out z h); (· simp at h; omega)), trivial⟩
        case measure => simp [intOf]; omega
    · obtain rfl : k = s.f1.length := by omega
      have NOT : Aside0 (¬ ∃ h ∈ s.f1, n ≤ h) := ⟨by
        rintro ⟨h, hh, hn⟩
        have := ALL.out h (by rw [List.take_length]; exact hh)
        omega⟩
      have ED0 := Aside0.mk (show declM l n = _ from by unfold declM; rw [← HS.out, if_neg NOT.out])
      clear hk hlk
      by_cases hl1 : 1 < s.f1.length
      · have ED : Aside0 (declM l n = 1) := ⟨by rw [ED0.out, if_pos hl1]⟩
        have hl1' : (1 : Int) < (s.f1.length : Int) := by omega
        go_wp2_with fail
        go_ret
        exact ⟨by rw [ED.out]; rfl, B2.out⟩
      · have ED1 := Aside0.mk (ED0.out.trans (if_neg hl1))
        have hl1' : ¬ (1 : Int) < (s.f1.length : Int) := by omega
        rcases hz : s.f1 with _ | ⟨o, t⟩
        · have ED : Aside0 (declM l n = 0) := ⟨by rw [ED1.out, hz]⟩
          rw [hz] at z1
          go_wp2_with fail
          go_ret
          exact ⟨by rw [ED.out]; rfl, B2.out⟩
        · have ht : t = [] := by rw [hz] at hl1; cases t with | nil => rfl | cons u t => exact absurd (by simp) hl1
          subst ht
          have oin := tyAt_supers HC.out N01.out.1 N01.out.2 o (by rw [← HS.out, hz]; simp)
          have on : o < n := ALL.out o (by rw [List.take_length, hz]; simp)
          have DO : Aside0 (Down l (o + 1)) := ⟨fun x hx0 hx1 => HD.out x hx0 (by omega)⟩
          have OI := Aside0.mk oin
          have EDO := ED1.out
          rw [hz] at EDO
          dsimp only at EDO
          have ED2 := Aside0.mk EDO
          obtain ⟨ai, y, eA, hy, hcy⟩ := at_int' R1.out 0 (by rw [hz]; simp)
          obtain rfl : o = y := by rw [hz] at hy; simpa using hy
          have e_ : ai.add 0 = ai := (by simp [Addr.add])
          rw [e_] at hcy
          subst eA
          replace hcy := (B2.out.cell (World.block_lt_of_cell? w _ hcy)).trans hcy
          rw [hz] at z1
          have HZ := Aside0.mk hz
          clear hy e_ EDO ED1 ED0 hl1 hl1' hz on oin
          have KO := r5At_calls A c l o wr (HL.out.below B2.out) OI.out.1 OI.out.2
          go_wp2_with fail
          refine KO.mono ?_
          rintro e w3 ⟨E1, d1, E3, d3, E4, d4, E5, d5, i2, p2, rfl, hto, hb3⟩
          obtain ⟨hco, _⟩ := cin2_of (HL.out.below B2.out) OI.out.1 OI.out.2 hto
          obtain ⟨so, hso⟩ : ∃ so, so = tyAt l o := ⟨_, rfl⟩
          rw [← hso] at hco ⊢
          have HSO := Aside0.mk hso
          have CO := Aside0.mk hco
          have B3 := Aside0.mk (B2.out.trans (hb3.mono B2.out.size))
          have Q3 := Aside0.mk (blk_below Q2.out hb3)
          have hz3 : w1.heap.size < w3.heap.size := blk_lt Q3.out
          replace z1 := (hb3.cell (World.block_lt_of_cell? wr _ z1)).trans z1
          replace hcy := (hb3.cell (World.block_lt_of_cell? wr _ hcy)).trans hcy
          have hai : ai.block < w3.heap.size := World.block_lt_of_cell? w3 _ hcy
          have HB3 := Aside0.mk hb3
          clear hb3 hto hco hso KO
          cases hf : so.f0 with
          | true =>
            have ED : Aside0 (declM l n = 70) := ⟨by rw [ED2.out, ← HSO.out, if_pos hf]⟩
            have B4 : Aside0 (Below w.heap.size w (w3.alloc (.cells #[.bool so.f0, .slice E1 so.f1.length d1, .int .i64 so.f2.f0, .slice E3 so.f2.f1.length d3, .slice E4 so.f2.f2.length d4, .slice E5 so.f2.f3.length d5] 53))) := ⟨B3.out.alloc B3.out.size _⟩
            rw [hf] at B4
            clear hf
            go_wp2_with fail
            go_ret
            exact ⟨by rw [ED.out]; rfl, B4.out⟩
          | false =>
            have ED3 : Aside0 (declM l n = _) := ⟨by rw [ED2.out, ← HSO.out, if_neg (by rw [hf]; simp)]⟩
            have B4 : Aside0 (Below w.heap.size w (w3.alloc (.cells #[.bool so.f0, .slice E1 so.f1.length d1, .int .i64 so.f2.f0, .slice E3 so.f2.f1.length d3, .slice E4 so.f2.f2.length d4, .slice E5 so.f2.f3.length d5] 53))) := ⟨B3.out.alloc B3.out.size _⟩
            have Q4 : Aside0 ((w3.alloc (.cells #[.bool so.f0, .slice E1 so.f1.length d1, .int .i64 so.f2.f0, .slice E3 so.f2.f1.length d3, .slice E4 so.f2.f2.length d4, .slice E5 so.f2.f3.length d5] 53)).heap[w1.heap.size]? = some (.cells #[.bool s.f0, .slice (some ai) s.f1.length c1, .int .i64 s.f2.f0, .slice A3 s.f2.f1.length c3, .slice A4 s.f2.f2.length c4, .slice A5 s.f2.f3.length c5] 53 (0, 0)) ∧ (w3.alloc (.cells #[.bool so.f0, .slice E1 so.f1.length d1, .int .i64 so.f2.f0, .slice E3 so.f2.f1.length d3, .slice E4 so.f2.f2.length d4, .slice E5 so.f2.f3.length d5] 53)).heap[w3.heap.size]? = some (.cells #[.bool so.f0, .slice E1 so.f1.length d1, .int .i64 so.f2.f0, .slice E3 so.f2.f1.length d3, .slice E4 so.f2.f2.length d4, .slice E5 so.f2.f3.length d5] 53 (0, 0))) := ⟨blk_alloc Q3.out _, blk_new w3 _⟩
            have HB4 : Aside0 (Below wr.heap.size wr (w3.alloc (.cells #[.bool so.f0, .slice E1 so.f1.length d1, .int .i64 so.f2.f0, .slice E3 so.f2.f1.length d3, .slice E4 so.f2.f2.length d4, .slice E5 so.f2.f3.length d5] 53))) := ⟨HB3.out.alloc HB3.out.size _⟩
            rw [hf] at B4 Q4 HB4
            have KD := r7depth_calls A c l o _ (HL.out.below B4.out) HC.out OI.out.1 OI.out.2 DO.out
            clear hf
            go_wp2_with fail
            refine KD.mono ?_
            rintro e w5 ⟨rfl, hb5⟩
            have B5 := Aside0.mk (B4.out.trans (hb5.mono B4.out.size))
            have Q5 := Aside0.mk (And.intro (blk_below Q4.out.1 hb5) (blk_below Q4.out.2 hb5))
            have HB5 := Aside0.mk (HB4.out.trans (hb5.mono HB4.out.size))
            clear hb5 KD z1 hcy hai hz3
            by_cases hdp : 63 ≤ depthM l o
            · have ED : Aside0 (declM l n = 72) := ⟨by rw [ED3.out, if_pos hdp]⟩
              go_wp2_with fail
              go_ret
              exact ⟨by rw [ED.out]; rfl, B5.out⟩
            have ED4 : Aside0 (declM l n = _) := ⟨ED3.out.trans (if_neg hdp)⟩
            have u2 : w5.cell? ⟨w1.heap.size, 2, none⟩ = some (.int .i64 s.f2.f0) := (blk_cell Q5.out.1 2).trans rfl
            have u3 : w5.cell? ⟨w1.heap.size, 3, none⟩ = some (.slice A3 s.f2.f1.length c3) := (blk_cell Q5.out.1 3).trans rfl
            have u4 : w5.cell? ⟨w1.heap.size, 4, none⟩ = some (.slice A4 s.f2.f2.length c4) := (blk_cell Q5.out.1 4).trans rfl
            have u5 : w5.cell? ⟨w1.heap.size, 5, none⟩ = some (.slice A5 s.f2.f3.length c5) := (blk_cell Q5.out.1 5).trans rfl
            have v2 : w5.cell? ⟨w3.heap.size, 2, none⟩ = some (.int .i64 so.f2.f0) := (blk_cell Q5.out.2 2).trans rfl
            have v3 : w5.cell? ⟨w3.heap.size, 3, none⟩ = some (.slice E3 so.f2.f1.length d3) := (blk_cell Q5.out.2 3).trans rfl
            have v4 : w5.cell? ⟨w3.heap.size, 4, none⟩ = some (.slice E4 so.f2.f2.length d4) := (blk_cell Q5.out.2 4).trans rfl
            have v5 : w5.cell? ⟨w3.heap.size, 5, none⟩ = some (.slice E5 so.f2.f3.length d5) := (blk_cell Q5.out.2 5).trans rfl
            have KC := r7Comp_calls A c l s.f2 A3 c3 A4 c4 A5 c5 so.f2 E3 d3 E4 d4 E5 d5 w5 (HL.out.below B5.out) HC.out (CI.out.below B5.out) (CO.out.below HB5.out)
            go_wp2_with fail
            refine KC.mono ?_
            rintro e w6 ⟨rfl, hb6⟩
            have B6 := Aside0.mk (B5.out.trans (hb6.mono B5.out.size))
            clear hb6 KC
            have ED5 := ED4.out
            cases hcm : compM l s.f2 so.f2 with
            | true =>
              have ED : Aside0 (declM l n = 0) := ⟨by rw [ED5, if_pos (by first | exact hcm | (rw [← HSO.out]; exact hcm))]⟩
              clear ED5 hcm
              go_wp2_with fail
              go_ret
              exact ⟨by rw [ED.out]; rfl, B6.out⟩
            | false =>
              have ED : Aside0 (declM l n = 71) := ⟨by rw [ED5, if_neg (by first | (rw [hcm]; simp) | (rw [← HSO.out, hcm]; simp))]⟩
              clear ED5 hcm
              go_wp2_with fail
              go_ret
              exact ⟨by rw [ED.out]; rfl, B6.out⟩
theorem down_of {l : List S62} {n : Int} (h : ∀ m : Int, 0 ≤ m → m < n → declM l m = 0) : Down l n := by
  intro x x0 x1 y hy
  have h0 := h x x0 x1
  unfold declM at h0
  by_cases he : ∃ h ∈ (tyAt l x).f1, x ≤ h
  · rw [if_pos he] at h0; omega
  · rcases Int.lt_or_le y x with h1 | h1
    · exact h1
    · exact absurd ⟨y, hy, h1⟩ he
/-- What Decl answers of closed groups: the first type that may not be declared so. -/
def DeclOut (l : List S62) (n e : Int) : Prop := (n = 0 ∧ e = 0 ∧ ∀ m : Int, 0 ≤ m → m < ((flat l).length : Int) → declM l m = 0) ∨ (0 ≤ n ∧ n < ((flat l).length : Int) ∧ e = declM l n ∧ e ≠ 0 ∧ ∀ m : Int, 0 ≤ m → m < n → declM l m = 0)
set_option maxRecDepth 100000 in
set_option maxHeartbeats 4000000 in
theorem r7Decl_yes (A : Option Addr) (c : Nat) (l : List S62) (w : World) (hl : LA w A c l) (hc : Clo l) :
    Calls Tryd.prog 28 #[.slice A l.length c] w fun e w' => ∃ n er, e = .returned (.tuple #[.int .i64 n, .int .i64 er]) ∧ DeclOut l n er ∧ Below w.heap.size w w' := by
  have HL := Aside0.mk hl
  have HC := Aside0.mk hc
  have hll := hl.flat_le
  obtain ⟨m, hm⟩ : ∃ m, m = (flat l).length := ⟨_, rfl⟩
  have HM := Aside0.mk hm
  rw [← hm] at hll
  have K := closed_ref A c l w hl
  clear hl hc hm
  go_enter Tryd.func28, Tryd.ntmps28
  go_wp2_with fail
  refine K.mono ?_
  rintro e w1 ⟨⟨n0, e0, rfl, ho⟩, hb⟩
  obtain ⟨rfl, rfl⟩ := ho.yes HC.out
  have B1 := Aside0.mk hb
  clear hb K ho
  go_wp2_with fail
  go_loopw [6] (fun i W => ∃ (k : Nat), i = .int .i64 k ∧ k ≤ m ∧ (∀ q : Int, 0 ≤ q → q < (k : Int) → declM l q = 0) ∧ Below w.heap.size w W) (fun i _ => m - (intOf i).toNat)
  case atStart => exact ⟨0, rfl, Nat.zero_le _, (fun q h0 h1 => by omega), B1.out⟩
  case round =>
    obtain ⟨k, rfl, hk, hall, hbw⟩ := hrel
    have ALL := Aside0.mk hall
    have W0 := Aside0.mk hbw
    have KC := r5Count_calls A c l wr (HL.out.below hbw)
    rw [← HM.out] at KC
    clear hall hbw
    have k0 : (0 : Int) ≤ (k : Int) := Int.natCast_nonneg k
    by_cases hlk : k < m
    · have kl : (k : Int) < (m : Int) := by omega
      go_wp2_with fail
      refine KC.mono ?_
      rintro e w2 ⟨rfl, hb⟩
      have W2 := Aside0.mk (W0.out.trans (hb.mono W0.out.size))
      clear hb KC
      go_wp2_with fail
      refine (r7declared_calls A c l (k : Int) w2 (HL.out.below W2.out) HC.out k0 (by rw [← HM.out]; exact kl) (down_of ALL.out)).mono ?_
      rintro e w3 ⟨rfl, hb⟩
      have W3 := Aside0.mk (W2.out.trans (hb.mono W2.out.size))
      obtain ⟨d, hd⟩ : ∃ d, d = declM l (k : Int) := ⟨_, rfl⟩
      rw [← hd]
      have HD := Aside0.mk hd
      clear hb hd
      by_cases hd0 : d = 0
      · subst hd0
        go_wp2_with fail
        go_roundw
        case rel => exact ⟨k + 1, by go_num, by omega, (fun q h0 h1 => (Int.lt_or_le q (k : Int)).elim (fun h => ALL.out q h0 h) (fun h => by have e_ : q = (k : Int) := (by push_cast at h1; omega); rw [e_]; exact HD.out.symm)), W3.out⟩
        case measure => simp [intOf]; omega
      · have hne : (d != 0) = true := by simp [hd0]
        go_wp2_with fail
        go_ret2
        exact ⟨(k : Int), d, rfl, .inr ⟨k0, by rw [← HM.out]; exact kl, HD.out, hd0, ALL.out⟩, W3.out⟩
    · obtain rfl : k = m := by omega
      have kl : ¬ ((k : Int) < (k : Int)) := by omega
      clear hk hlk
      go_wp2_with fail
      refine KC.mono ?_
      rintro e w2 ⟨rfl, hb⟩
      have W2 := Aside0.mk (W0.out.trans (hb.mono W0.out.size))
      clear hb KC
      go_wp2_with fail
      go_ret2
      exact ⟨0, 0, rfl, .inl ⟨rfl, rfl, by rw [← HM.out]; exact ALL.out⟩, W2.out⟩
set_option maxRecDepth 100000 in
theorem r7Decl_no (A : Option Addr) (c : Nat) (l : List S62) (w : World) (hl : LA w A c l) (hc : ¬ Clo l) :
    Calls Tryd.prog 28 #[.slice A l.length c] w fun e w' => ∃ n : Int, e = .returned (.tuple #[.int .i64 n, .int .i64 50]) ∧ CloOut l n 50 ∧ Below w.heap.size w w' := by
  have HC := Aside0.mk hc
  have K := closed_ref A c l w hl
  clear hl hc
  go_enter Tryd.func28, Tryd.ntmps28
  go_wp2_with fail
  refine K.mono ?_
  rintro e w1 ⟨⟨n0, e0, rfl, ho⟩, hb⟩
  obtain rfl := ho.no HC.out
  have B1 := Aside0.mk hb
  have HO := Aside0.mk ho
  clear hb K ho
  go_wp2_with fail
  go_ret2
  exact ⟨n0, rfl, HO.out, B1.out⟩
theorem ty_place {l : List S62} {x : Nat} (hx : x < tcount l) : ∃ (j : Nat) (r : S62) (o : Nat), l[j]? = some r ∧ x = tcount (l.take j) + o ∧ o < r.f0.length ∧ r.f0[o]? = some (tyAt l (x : Int)) := by
  obtain ⟨j, r, p, hj, hr, he, hp⟩ := place_of l l.length x (Nat.le_refl _) (by rw [List.take_length]; exact hx)
  refine ⟨j, r, p, hr, he, hp, ?_⟩
  have h2 : (flat l)[x]? = r.f0[p]? := by rw [he]; exact flat_get hr hp
  unfold tyAt rd_T53
  rw [Int.toNat_natCast, List.getD_eq_getElem?_getD, h2, List.getElem?_eq_getElem hp]
  rfl
/-- The ids of a list, and what they tell: two types are one just if their groups, rolled up, are one, and their places in these. -/
structure IdsOf (l : List S62) (gs : List (List S53)) (I : List Int) : Prop where
  dist : Dist gs
  len : I.length = tcount l
  pos : ∀ i ∈ I, 0 ≤ i
  all : ∀ (j : Nat) (r : S62), l[j]? = some r → ∃ idx, gs[idx]? = some (ownG (I.take (tcount (l.take j))) r) ∧ ∀ o, o < r.f0.length → I[tcount (l.take j) + o]? = some (firstOf gs idx + o)
  same : ∀ x y : Nat, x < tcount l → y < tcount l → (SameT l x y ↔ rd I x = rd I y)
theorem idsOf_ex {l : List S62} (hc : Clo l) (ht : tcount l ≤ 1048576) : ∃ gs I, IdsOf l gs I := by
  obtain ⟨g1, i1, h1, h2⟩ := oneIds_self ht
  obtain ⟨hD, _, ⟨t, he, hl⟩, hch⟩ := addTo_char _ _ _ _ _ _ h1 Dist.nil
  refine ⟨g1, i1, hD, by rw [he]; simpa using hl, ids_nonneg h1 Dist.nil, fun j r hr => ?_, fun x y hx hy => sameT_iff (g1 := g1) hc h2 hx hy⟩
  obtain ⟨idx, ha, hb⟩ := hch j r hr
  simp only [List.length_nil, Nat.zero_add] at ha hb
  exact ⟨idx, ha, hb⟩
theorem SameT.refl {l : List S62} (hc : Clo l) (ht : tcount l ≤ 1048576) {x : Nat} (hx : x < tcount l) : SameT l x x := by
  obtain ⟨gs, I, h⟩ := idsOf_ex hc ht
  exact (h.same x x hx hx).2 rfl
theorem SameT.symm {l : List S62} (hc : Clo l) (ht : tcount l ≤ 1048576) {x y : Nat} (hx : x < tcount l) (hy : y < tcount l) (hs : SameT l x y) : SameT l y x := by
  obtain ⟨gs, I, h⟩ := idsOf_ex hc ht
  exact (h.same y x hy hx).2 ((h.same x y hx hy).1 hs).symm
theorem SameT.trans {l : List S62} (hc : Clo l) (ht : tcount l ≤ 1048576) {x y z : Nat} (hx : x < tcount l) (hy : y < tcount l) (hz : z < tcount l) (h1 : SameT l x y) (h2 : SameT l y z) : SameT l x z := by
  obtain ⟨gs, I, h⟩ := idsOf_ex hc ht
  exact (h.same x z hx hz).2 (((h.same x y hx hy).1 h1).trans ((h.same y z hy hz).1 h2))
/-- What two numbers that roll up alike are: both abstract and the same, or two types that are one. -/
def RollSame (l : List S62) (p q : Int) : Prop := (p < 0 ∧ p = q) ∨ (0 ≤ p ∧ 0 ≤ q ∧ SameT l p.toNat q.toNat)
/-- Two types that are one: their types, rolled up, are one; and so are the numbers in them. -/
theorem same_parts {l : List S62} (hc : Clo l) (ht : tcount l ≤ 1048576) {x y : Nat} (hx : x < tcount l) (hy : y < tcount l) (hs : SameT l x y) :
    ∃ (Ix Iy : List Int) (ex ey : Int), mroll Ix (tyAt l (x : Int)) = mroll Iy (tyAt l (y : Int)) ∧ ex ≤ (tcount l : Nat) ∧ ey ≤ (tcount l : Nat) ∧
      TQ (fun h => -12 ≤ h ∧ h < ex) (tyAt l (x : Int)) ∧ TQ (fun h => -12 ≤ h ∧ h < ey) (tyAt l (y : Int)) ∧
      ∀ p q : Int, (-12 ≤ p ∧ p < ex) → (-12 ≤ q ∧ q < ey) → rollF Ix p = rollF Iy q → RollSame l p q := by
  obtain ⟨gs, I, h⟩ := idsOf_ex hc ht
  obtain ⟨j, r, o, hr, rfl, ho, hX⟩ := ty_place hx
  obtain ⟨j', r', o', hr', rfl, ho', hY⟩ := ty_place hy
  obtain ⟨idx, g1, g2⟩ := h.all j r hr
  obtain ⟨idx', g1', g2'⟩ := h.all j' r' hr'
  have hsame := (h.same _ _ hx hy).1 hs
  rw [rd_eq I _ _ (by rw [Int.toNat_natCast]; exact g2 o ho), rd_eq I _ _ (by rw [Int.toNat_natCast]; exact g2' o' ho')] at hsame
  obtain ⟨rfl, rfl⟩ := (id_eq_iff g1 g1' (by rw [ownG_length]; exact ho) (by rw [ownG_length]; exact ho')).1 hsame
  have hG : ownG (I.take (tcount (l.take j))) r = ownG (I.take (tcount (l.take j'))) r' := by rw [g1] at g1'; exact Option.some.inj g1'
  have hT := tcount_take_le l j r hr
  have hT' := tcount_take_le l j' r' hr'
  have hl1 : (I.take (tcount (l.take j))).length = tcount (l.take j) := by rw [List.length_take, h.len]; omega
  have hl2 : (I.take (tcount (l.take j'))).length = tcount (l.take j') := by rw [List.length_take, h.len]; omega
  have hpos : ∀ p : Nat, p < tcount l → 0 ≤ rd I (p : Int) := fun p hp => by
    obtain ⟨v, e⟩ : ∃ v, I[p]? = some v := ⟨_, List.getElem?_eq_getElem (show p < I.length by rw [h.len]; exact hp)⟩
    rw [rd_eq I p v (by rw [Int.toNat_natCast]; exact e)]
    exact h.pos v (List.mem_of_getElem? e)
  have hq := hc.tq hr (List.mem_of_getElem? hX)
  have hq' := hc.tq hr' (List.mem_of_getElem? hY)
  rw [tcount_take l j r hr] at hq
  rw [tcount_take l j' r' hr'] at hq'
  refine ⟨I.take (tcount (l.take j)), I.take (tcount (l.take j')), ((tcount (l.take j) + r.f0.length : Nat) : Int), ((tcount (l.take j') + r'.f0.length : Nat) : Int), ?_, by omega, by omega, hq, hq', ?_⟩
  · have h1 : (ownG (I.take (tcount (l.take j))) r)[o]? = (ownG (I.take (tcount (l.take j'))) r')[o]? := by rw [hG]
    unfold ownG at h1
    rw [List.getElem?_map, List.getElem?_map, hX, hY] at h1
    simpa using h1
  · intro p q hp hq0 he
    unfold rollF at he
    rw [hl1, hl2] at he
    by_cases p0 : p < 0
    · rw [if_pos p0] at he
      by_cases q0 : q < 0
      · rw [if_pos q0] at he; exact .inl ⟨p0, he⟩
      · rw [if_neg q0] at he
        by_cases q1 : q < (tcount (l.take j') : Int)
        · rw [if_pos q1, rd_take _ _ _ (by omega) q1] at he
          have := hpos q.toNat (by omega)
          rw [Int.toNat_of_nonneg (by omega)] at this
          omega
        · rw [if_neg q1] at he; omega
    · rw [if_neg p0] at he
      by_cases p1 : p < (tcount (l.take j) : Int)
      · rw [if_pos p1, rd_take _ _ _ (by omega) p1] at he
        have hp2 := hpos p.toNat (by omega)
        rw [Int.toNat_of_nonneg (by omega)] at hp2
        by_cases q0 : q < 0
        · rw [if_pos q0] at he; omega
        · rw [if_neg q0] at he
          by_cases q1 : q < (tcount (l.take j') : Int)
          · rw [if_pos q1, rd_take _ _ _ (by omega) q1] at he
            refine .inr ⟨by omega, by omega, (h.same _ _ (by omega) (by omega)).2 ?_⟩
            rw [Int.toNat_of_nonneg (by omega), Int.toNat_of_nonneg (by omega)]
            exact he
          · rw [if_neg q1] at he; omega
      · rw [if_neg p1] at he
        by_cases q0 : q < 0
        · rw [if_pos q0] at he; omega
        · rw [if_neg q0] at he
          by_cases q1 : q < (tcount (l.take j') : Int)
          · rw [if_pos q1, rd_take _ _ _ (by omega) q1] at he
            have := hpos q.toNat (by omega)
            rw [Int.toNat_of_nonneg (by omega)] at this
            omega
          · rw [if_neg q1] at he
            refine .inr ⟨by omega, by omega, (h.same _ _ (by omega) (by omega)).2 ?_⟩
            obtain ⟨d, hd⟩ : ∃ d : Nat, p = (tcount (l.take j) : Int) + d := ⟨(p - tcount (l.take j)).toNat, by omega⟩
            have hd' : q = (tcount (l.take j') : Int) + d := by omega
            have e1 : p.toNat = tcount (l.take j) + d := by omega
            have e2 : q.toNat = tcount (l.take j') + d := by omega
            rw [e1, e2, rd_eq I _ _ (by rw [Int.toNat_natCast]; exact g2 d (by omega)), rd_eq I _ _ (by rw [Int.toNat_natCast]; exact g2' d (by omega))]
/-- Two types that are one declare types above them that are one. -/
theorem same_supers {l : List S62} (hc : Clo l) (ht : tcount l ≤ 1048576) {x y : Nat} (hx : x < tcount l) (hy : y < tcount l) (hs : SameT l x y) :
    ((tyAt l (x : Int)).f1 = [] ∧ (tyAt l (y : Int)).f1 = []) ∨ ∃ p t q u, (tyAt l (x : Int)).f1 = p :: t ∧ (tyAt l (y : Int)).f1 = q :: u ∧ SameT l p.toNat q.toNat := by
  obtain ⟨Ix, Iy, ex, ey, hm, _, _, hX, hY, hr⟩ := same_parts hc ht hx hy hs
  have h1 : (tyAt l (x : Int)).f1.map (rollF Ix) = (tyAt l (y : Int)).f1.map (rollF Iy) := by
    have := congrArg S53.f1 hm
    simpa only [mroll_eq] using this
  have sx := tyAt_supers hc (x := (x : Int)) (by omega) (by rw [flat_length]; omega)
  rcases ha : (tyAt l (x : Int)).f1 with _ | ⟨p, t⟩
  · rw [ha] at h1
    rcases hb : (tyAt l (y : Int)).f1 with _ | ⟨q, u⟩
    · exact .inl ⟨rfl, rfl⟩
    · rw [hb] at h1; simp at h1
  · rw [ha] at h1
    rcases hb : (tyAt l (y : Int)).f1 with _ | ⟨q, u⟩
    · rw [hb] at h1; simp at h1
    · rw [hb] at h1
      simp only [List.map_cons, List.cons.injEq] at h1
      refine .inr ⟨p, t, q, u, rfl, rfl, ?_⟩
      rcases hr p q (hX.q1 p (by rw [ha]; simp)) (hY.q1 q (by rw [hb]; simp)) h1.1 with ⟨h2, _⟩ | ⟨_, _, h2⟩
      · have := (sx p (by rw [ha]; simp)).1; omega
      · exact h2
/-- Down a list of valid declarations, more fuel gives no longer chain. -/
theorem chain_fuel {l : List S62} (hc : Clo l) {N : Int} (hd : Down l N) (hN : N ≤ ((flat l).length : Int)) : ∀ (k : Nat) (x : Int) (k' : Nat), 0 ≤ x → x < N → x < k → k ≤ k' → chain l k x = chain l k' x := by
  intro k
  induction k with
  | zero => intro x k' h0 _ h1; omega
  | succ k ih =>
    intro x k' h0 h1 h2 h3
    obtain ⟨k'', rfl⟩ : ∃ k'', k' = k'' + 1 := ⟨k' - 1, by omega⟩
    rcases hz : (tyAt l x).f1 with _ | ⟨y, t⟩
    · rw [chain_end _ hz, chain_end _ hz]
    · rw [chain_on _ hz, chain_on _ hz]
      have hy := tyAt_supers hc h0 (by omega) y (by rw [hz]; simp)
      have hyx := hd x h0 h1 y (by rw [hz]; simp)
      rw [ih y k'' hy.1 (by omega) (by omega) (by omega)]
/-- The chain above a type, in full. -/
def ch (l : List S62) (x : Int) : List Int := chain l ((flat l).length + 1) x
theorem ch_on {l : List S62} (hc : Clo l) (hd : Down l ((flat l).length : Int)) {x y : Int} {t : List Int} (h0 : 0 ≤ x) (h1 : x < ((flat l).length : Int)) (hz : (tyAt l x).f1 = y :: t) : ch l x = x :: ch l y ∧ 0 ≤ y ∧ y < x := by
  have hy := tyAt_supers hc h0 h1 y (by rw [hz]; simp)
  have hyx := hd x h0 h1 y (by rw [hz]; simp)
  refine ⟨?_, hy.1, hyx⟩
  unfold ch
  rw [chain_on _ hz, chain_fuel hc hd (Int.le_refl _) (flat l).length y ((flat l).length + 1) hy.1 (by omega) (by omega) (by omega)]
theorem ch_end {l : List S62} {x : Int} (hz : (tyAt l x).f1 = []) : ch l x = [x] := chain_end _ hz
/-- What lies in the chain above x. -/
theorem ch_mem {l : List S62} (hc : Clo l) (hd : Down l ((flat l).length : Int)) : ∀ (k : Nat) (x : Int), 0 ≤ x → x < ((flat l).length : Int) → x < k → ∀ y ∈ ch l x, (0 ≤ y ∧ y ≤ x) ∧ (y = x ∨ (ch l y).length < (ch l x).length) := by
  intro k
  induction k with
  | zero => intro x h0 _ h; omega
  | succ k ih =>
    intro x h0 h1 hk y hy
    rcases hz : (tyAt l x).f1 with _ | ⟨z, t⟩
    · rw [ch_end hz] at hy
      have := List.mem_singleton.1 hy
      subst this
      exact ⟨⟨h0, Int.le_refl _⟩, .inl rfl⟩
    · obtain ⟨e, z0, zx⟩ := ch_on hc hd h0 h1 hz
      rw [e] at hy
      rcases List.mem_cons.1 hy with rfl | hy
      · exact ⟨⟨h0, Int.le_refl _⟩, .inl rfl⟩
      · obtain ⟨⟨a1, a2⟩, a3⟩ := ih z z0 (by omega) (by omega) y hy
        refine ⟨⟨a1, by omega⟩, .inr ?_⟩
        rw [e, List.length_cons]
        rcases a3 with rfl | a3 <;> omega
theorem rows_iff {l : List S62} {a b : Int} (b0 : 0 ≤ b) : rowsM l a b = true ↔ ∃ x ∈ ch l a, SameT l x.toNat b.toNat := by
  unfold rowsM
  rw [List.any_eq_true]
  exact Iff.rfl
theorem ch_self {l : List S62} (x : Int) : x ∈ ch l x := by
  unfold ch
  rcases hz : (tyAt l x).f1 with _ | ⟨y, t⟩
  · rw [chain_end _ hz]; simp
  · rw [chain_on _ hz]; simp
/-- All declarations are valid. -/
def Valid (l : List S62) : Prop := ∀ m : Int, 0 ≤ m → m < ((flat l).length : Int) → declM l m = 0
theorem declM_up {l : List S62} {x o : Int} {t : List Int} (h : declM l x = 0) (hz : (tyAt l x).f1 = o :: t) : t = [] ∧ (tyAt l o).f0 = false ∧ depthM l o < 63 ∧ compM l (tyAt l x).f2 (tyAt l o).f2 = true := by
  unfold declM at h
  by_cases h1 : ∃ h ∈ (tyAt l x).f1, x ≤ h
  · rw [if_pos h1] at h; omega
  rw [if_neg h1] at h
  by_cases h2 : 1 < (tyAt l x).f1.length
  · rw [if_pos h2] at h; omega
  rw [if_neg h2, hz] at h
  dsimp only at h
  rw [hz] at h2
  have ht : t = [] := by cases t with | nil => rfl | cons u t => exact absurd (by simp) h2
  by_cases h3 : (tyAt l o).f0 = true
  · rw [if_pos h3] at h; omega
  rw [if_neg h3] at h
  by_cases h4 : 63 ≤ depthM l o
  · rw [if_pos h4] at h; omega
  rw [if_neg h4] at h
  by_cases h5 : compM l (tyAt l x).f2 (tyAt l o).f2 = true
  · exact ⟨ht, by simpa using h3, by omega, h5⟩
  · rw [if_neg h5] at h; omega
theorem compM_kind {l : List S62} {a b : S51} (h : compM l a b = true) : a.f0 = b.f0 := by
  unfold compM at h
  rw [Bool.and_eq_true] at h
  exact of_decide_eq_true h.1
theorem kind_up {l : List S62} {x o : Int} {t : List Int} (h : declM l x = 0) (hz : (tyAt l x).f1 = o :: t) : kindOf l o = kindOf l x := by
  unfold kindOf
  rw [compM_kind (declM_up h hz).2.2.2]
theorem kind_same {l : List S62} (hc : Clo l) (ht : tcount l ≤ 1048576) {x y : Int} (x0 : 0 ≤ x) (x1 : x < ((flat l).length : Int)) (y0 : 0 ≤ y) (y1 : y < ((flat l).length : Int)) (hs : SameT l x.toNat y.toNat) : kindOf l x = kindOf l y := by
  have hfl := flat_length l
  obtain ⟨Ix, Iy, _, _, hm, _⟩ := same_parts hc ht (x := x.toNat) (y := y.toNat) (by omega) (by omega) hs
  rw [Int.toNat_of_nonneg x0, Int.toNat_of_nonneg y0] at hm
  have h := congrArg (fun s : S53 => s.f2.f0) hm
  simp only [mroll_eq] at h
  unfold kindOf
  rw [h]
theorem ch_kind {l : List S62} (hc : Clo l) (hv : Valid l) : ∀ (k : Nat) (x : Int), 0 ≤ x → x < ((flat l).length : Int) → x < k → ∀ y ∈ ch l x, kindOf l y = kindOf l x := by
  intro k
  induction k with
  | zero => intro x h0 _ h; omega
  | succ k ih =>
    intro x h0 h1 hk y hy
    rcases hz : (tyAt l x).f1 with _ | ⟨z, t⟩
    · rw [ch_end hz] at hy
      rw [List.mem_singleton.1 hy]
    · obtain ⟨e, z0, zx⟩ := ch_on hc (down_of hv) h0 h1 hz
      rw [e] at hy
      rcases List.mem_cons.1 hy with rfl | hy
      · rfl
      · rw [ih z z0 (by omega) (by omega) y hy, kind_up (hv x h0 h1) hz]
theorem ch_sub {l : List S62} (hc : Clo l) (hd : Down l ((flat l).length : Int)) : ∀ (k : Nat) (a : Int), 0 ≤ a → a < ((flat l).length : Int) → a < k → ∀ x ∈ ch l a, ∀ z ∈ ch l x, z ∈ ch l a := by
  intro k
  induction k with
  | zero => intro x h0 _ h; omega
  | succ k ih =>
    intro a h0 h1 hk x hx z hz'
    rcases hz : (tyAt l a).f1 with _ | ⟨y, t⟩
    · rw [ch_end hz] at hx
      rw [List.mem_singleton.1 hx] at hz'
      exact hz'
    · obtain ⟨e, y0, ya⟩ := ch_on hc hd h0 h1 hz
      rw [e] at hx
      rcases List.mem_cons.1 hx with rfl | hx
      · exact hz'
      · rw [e]
        exact List.mem_cons_of_mem _ (ih y y0 (by omega) (by omega) x hx z hz')
theorem ch_lift {l : List S62} (hc : Clo l) (ht : tcount l ≤ 1048576) (hd : Down l ((flat l).length : Int)) : ∀ (k : Nat) (x b : Int), 0 ≤ x → x < ((flat l).length : Int) → 0 ≤ b → b < ((flat l).length : Int) → x < k → SameT l x.toNat b.toNat → ∀ y ∈ ch l b, ∃ z ∈ ch l x, SameT l z.toNat y.toNat := by
  intro k
  induction k with
  | zero => intro x b h0 _ _ _ h; omega
  | succ k ih =>
    intro x b x0 x1 b0 b1 hk hs y hy
    have hfl := flat_length l
    have h := same_supers hc ht (x := x.toNat) (y := b.toNat) (by omega) (by omega) hs
    rw [Int.toNat_of_nonneg x0, Int.toNat_of_nonneg b0] at h
    rcases h with ⟨h1, h2⟩ | ⟨p, t, q, u, h1, h2, h3⟩
    · rw [ch_end h2] at hy
      rw [List.mem_singleton.1 hy]
      exact ⟨x, ch_self x, hs⟩
    · obtain ⟨e1, p0, px⟩ := ch_on hc hd x0 x1 h1
      obtain ⟨e2, q0, qb⟩ := ch_on hc hd b0 b1 h2
      rw [e2] at hy
      rcases List.mem_cons.1 hy with rfl | hy
      · exact ⟨x, ch_self x, hs⟩
      · obtain ⟨z, hz, hzs⟩ := ih p q p0 (by omega) q0 (by omega) (by omega) h3 y hy
        exact ⟨z, by rw [e1]; exact List.mem_cons_of_mem _ hz, hzs⟩
theorem absM_table : ∀ i j k : Fin 12, absM (-(i.val : Int) - 1) (-(j.val : Int) - 1) = true → absM (-(j.val : Int) - 1) (-(k.val : Int) - 1) = true → absM (-(i.val : Int) - 1) (-(k.val : Int) - 1) = true := by decide +kernel
theorem absM_trans {a b c : Int} (a0 : -12 ≤ a) (a1 : a < 0) (b0 : -12 ≤ b) (b1 : b < 0) (c0 : -12 ≤ c) (c1 : c < 0) (h1 : absM a b = true) (h2 : absM b c = true) : absM a c = true := by
  have h := absM_table ⟨(-a - 1).toNat, by omega⟩ ⟨(-b - 1).toNat, by omega⟩ ⟨(-c - 1).toNat, by omega⟩
  dsimp only at h
  have ea : -(((-a - 1).toNat : Nat) : Int) - 1 = a := by omega
  have eb : -(((-b - 1).toNat : Nat) : Int) - 1 = b := by omega
  have ec : -(((-c - 1).toNat : Nat) : Int) - 1 = c := by omega
  rw [ea, eb, ec] at h
  exact h h1 h2
theorem absM_refl {a : Int} : absM a a = true := by
  unfold absM
  by_cases h : a = -10
  · rw [if_pos h]; simp [h]
  · rw [if_neg h]; simp [absL]
theorem heapM_refl {l : List S62} (hc : Clo l) (ht : tcount l ≤ 1048576) {a : Int} (ha : isM l a = true) : heapM l a a = true := by
  obtain ⟨a0, a1⟩ := isM_bounds ha
  have hfl := flat_length l
  rw [heapM_eq ha ha]
  by_cases na : a < 0
  · rw [if_pos na, if_pos na]; exact absM_refl
  · rw [if_neg na, if_neg na, rows_iff (by omega)]
    exact ⟨a, ch_self a, SameT.refl hc ht (by omega)⟩
theorem heapM_is {l : List S62} {a b : Int} (h : heapM l a b = true) : isM l a = true ∧ isM l b = true := by
  by_cases hh : isM l a = true ∧ isM l b = true
  · exact hh
  · rw [heapM_no hh] at h; cases h
theorem heapM_trans {l : List S62} (hc : Clo l) (ht : tcount l ≤ 1048576) (hv : Valid l) {a b c : Int} (h1 : heapM l a b = true) (h2 : heapM l b c = true) : heapM l a c = true := by
  obtain ⟨ha, hb⟩ := heapM_is h1
  obtain ⟨_, hcc⟩ := heapM_is h2
  obtain ⟨a0, a1⟩ := isM_bounds ha
  obtain ⟨b0, b1⟩ := isM_bounds hb
  obtain ⟨c0, c1⟩ := isM_bounds hcc
  have hd := down_of hv
  have hfl := flat_length l
  have kin : ∀ x : Int, kindOf l x = -1 ∨ kindOf l x = -8 ∨ kindOf l x = -9 := fun x => kindM_in _
  rw [heapM_eq ha hb] at h1
  rw [heapM_eq hb hcc] at h2
  rw [heapM_eq ha hcc]
  by_cases na : a < 0
  · rw [if_pos na] at h1 ⊢
    by_cases nb : b < 0
    · rw [if_pos nb] at h1 h2
      by_cases nc : c < 0
      · rw [if_pos nc] at h2 ⊢
        exact absM_trans a0 na b0 nb c0 nc h1 h2
      · rw [if_neg nc] at h2 ⊢
        simp only [Bool.or_eq_true, Bool.and_eq_true, decide_eq_true_eq] at h2 ⊢
        rcases h2 with ⟨rfl, h3⟩ | ⟨rfl, h3⟩
        · have e : a = -10 := by
            rcases abs_cases a0 (by omega) with rfl | rfl | rfl | rfl | rfl | rfl | rfl | rfl | rfl | rfl | rfl | rfl | rfl <;> first | rfl | omega | (revert h1; decide)
          exact .inl ⟨e, h3⟩
        · have e : a = -2 := by
            rcases abs_cases a0 (by omega) with rfl | rfl | rfl | rfl | rfl | rfl | rfl | rfl | rfl | rfl | rfl | rfl | rfl <;> first | rfl | omega | (revert h1; decide)
          exact .inr ⟨e, h3⟩
    · rw [if_neg nb] at h1 h2
      simp only [Bool.or_eq_true, Bool.and_eq_true, decide_eq_true_eq] at h1
      by_cases nc : c < 0
      · rw [if_pos nc] at h2 ⊢
        refine absM_trans a0 na (b := kindOf l b) (by have := kin b; omega) (by have := kin b; omega) c0 nc ?_ h2
        rcases h1 with ⟨rfl, h3⟩ | ⟨rfl, h3⟩
        · rcases kin b with h | h | h
          · exact absurd h h3
          · rw [h]; decide
          · rw [h]; decide
        · rw [h3]; decide
      · rw [if_neg nc] at h2 ⊢
        rw [rows_iff (by omega)] at h2
        obtain ⟨y, hy, hs⟩ := h2
        have hm := ch_mem hc hd (b.toNat + 1) b (by omega) b1 (by omega) y hy
        have hk : kindOf l c = kindOf l b := by
          rw [← ch_kind hc hv (b.toNat + 1) b (by omega) b1 (by omega) y hy]
          exact (kind_same hc ht hm.1.1 (by omega) (by omega) c1 hs).symm
        simp only [Bool.or_eq_true, Bool.and_eq_true, decide_eq_true_eq]
        rw [hk]
        exact h1
  · rw [if_neg na] at h1 ⊢
    by_cases nb : b < 0
    · rw [if_pos nb] at h1 h2
      by_cases nc : c < 0
      · rw [if_pos nc] at h2 ⊢
        exact absM_trans (by have := kin a; omega) (by have := kin a; omega) b0 nb c0 nc h1 h2
      · exfalso
        rw [if_neg nc] at h2
        simp only [Bool.or_eq_true, Bool.and_eq_true, decide_eq_true_eq] at h2
        rcases h2 with ⟨rfl, _⟩ | ⟨rfl, _⟩
        · rcases kin a with h | h | h <;> rw [h] at h1 <;> revert h1 <;> decide
        · rcases kin a with h | h | h <;> rw [h] at h1 <;> revert h1 <;> decide
    · rw [if_neg nb] at h1 h2
      rw [rows_iff (by omega)] at h1
      obtain ⟨x, hx, hsx⟩ := h1
      have hmx := ch_mem hc hd (a.toNat + 1) a (by omega) a1 (by omega) x hx
      by_cases nc : c < 0
      · rw [if_pos nc] at h2 ⊢
        have hk : kindOf l b = kindOf l a := by
          rw [← ch_kind hc hv (a.toNat + 1) a (by omega) a1 (by omega) x hx]
          exact (kind_same hc ht hmx.1.1 (by omega) (by omega) b1 hsx).symm
        rw [← hk]
        exact h2
      · rw [if_neg nc] at h2 ⊢
        rw [rows_iff (by omega)] at h2 ⊢
        obtain ⟨y, hy, hsy⟩ := h2
        have hmy := ch_mem hc hd (b.toNat + 1) b (by omega) b1 (by omega) y hy
        obtain ⟨z, hz, hsz⟩ := ch_lift hc ht hd (x.toNat + 1) x b hmx.1.1 (by omega) (by omega) b1 (by omega) hsx y hy
        have hmz := ch_mem hc hd (x.toNat + 1) x hmx.1.1 (by omega) (by omega) z hz
        exact ⟨z, ch_sub hc hd (a.toNat + 1) a (by omega) a1 (by omega) x hx z hz, SameT.trans hc ht (by omega) (by omega) (by omega) hsz hsy⟩
def startM (l : List S62) (a : Int) : Int := if 0 ≤ a then kindOf l a else a
def topM (l : List S62) (a : Int) : Int := famH (startM l a)
/-- The first abstract type, up from x, that b matches. -/
structure UpRes (l : List S62) (b x h : Int) : Prop where
  lo : -12 ≤ h
  neg : h < 0
  bh : heapM l b h = true
  xh : absM x h = true
  least : ∀ c : Int, -12 ≤ c → c < 0 → absM x c = true → heapM l b c = true → absM h c = true
/-- On the way up. -/
structure UpOn (l : List S62) (b x y : Int) : Prop where
  lo : -12 ≤ y
  neg : y < 0
  ten : y ≠ -10
  fam : famH y = topM l b
  xy : absM x y = true
  least : ∀ c : Int, -12 ≤ c → c < 0 → absM x c = true → heapM l b c = true → absM y c = true
theorem fin12 {P : Int → Prop} (h : ∀ i : Fin 12, P (-(i.val : Int) - 1)) {x : Int} (x0 : -12 ≤ x) (x1 : x < 0) : P x := by
  have h1 := h ⟨(-x - 1).toNat, by omega⟩
  have e : -(((-x - 1).toNat : Nat) : Int) - 1 = x := by omega
  dsimp only at h1
  rw [e] at h1
  exact h1
theorem absM_fam_t : ∀ i j : Fin 12, absM (-(i.val : Int) - 1) (-(j.val : Int) - 1) = true → famH (-(i.val : Int) - 1) = famH (-(j.val : Int) - 1) := by decide +kernel
theorem absM_fam {a c : Int} (a0 : -12 ≤ a) (a1 : a < 0) (c0 : -12 ≤ c) (c1 : c < 0) (h : absM a c = true) : famH a = famH c :=
  fin12 (P := fun a => absM a c = true → famH a = famH c) (fun i => fin12 (P := fun c => absM (-(i.val : Int) - 1) c = true → famH (-(i.val : Int) - 1) = famH c) (fun j => absM_fam_t i j) c0 c1) a0 a1 h
theorem up_step_t : ∀ i : Fin 12, -(i.val : Int) - 1 ≠ -10 → famH (-(i.val : Int) - 1) ≠ -(i.val : Int) - 1 → -12 ≤ upH (-(i.val : Int) - 1) ∧ upH (-(i.val : Int) - 1) < 0 ∧ upH (-(i.val : Int) - 1) ≠ -10 ∧ famH (upH (-(i.val : Int) - 1)) = famH (-(i.val : Int) - 1) ∧ absM (-(i.val : Int) - 1) (upH (-(i.val : Int) - 1)) = true := by decide +kernel
theorem up_step {x : Int} (x0 : -12 ≤ x) (x1 : x < 0) : x ≠ -10 → famH x ≠ x → -12 ≤ upH x ∧ upH x < 0 ∧ upH x ≠ -10 ∧ famH (upH x) = famH x ∧ absM x (upH x) = true :=
  fin12 (P := fun x => x ≠ -10 → famH x ≠ x → -12 ≤ upH x ∧ upH x < 0 ∧ upH x ≠ -10 ∧ famH (upH x) = famH x ∧ absM x (upH x) = true) up_step_t x0 x1
theorem up_past_t : ∀ i j : Fin 12, -(i.val : Int) - 1 ≠ -10 → absM (-(i.val : Int) - 1) (-(j.val : Int) - 1) = true → -(j.val : Int) - 1 ≠ -(i.val : Int) - 1 → absM (upH (-(i.val : Int) - 1)) (-(j.val : Int) - 1) = true := by decide +kernel
theorem up_past {x c : Int} (x0 : -12 ≤ x) (x1 : x < 0) (c0 : -12 ≤ c) (c1 : c < 0) : x ≠ -10 → absM x c = true → c ≠ x → absM (upH x) c = true :=
  fin12 (P := fun x => x ≠ -10 → absM x c = true → c ≠ x → absM (upH x) c = true) (fun i => fin12 (P := fun c => -(i.val : Int) - 1 ≠ -10 → absM (-(i.val : Int) - 1) c = true → c ≠ -(i.val : Int) - 1 → absM (upH (-(i.val : Int) - 1)) c = true) (fun j => up_past_t i j) c0 c1) x0 x1
theorem fam_t : ∀ i : Fin 12, (-12 ≤ famH (-(i.val : Int) - 1) ∧ famH (-(i.val : Int) - 1) < 0) ∧ absM (-(i.val : Int) - 1) (famH (-(i.val : Int) - 1)) = true := by decide +kernel
theorem fam_in {x : Int} (x0 : -12 ≤ x) (x1 : x < 0) : (-12 ≤ famH x ∧ famH x < 0) ∧ absM x (famH x) = true := fin12 (P := fun x => (-12 ≤ famH x ∧ famH x < 0) ∧ absM x (famH x) = true) fam_t x0 x1
theorem startM_in {l : List S62} {a : Int} (ha : isM l a = true) : -12 ≤ startM l a ∧ startM l a < 0 := by
  obtain ⟨a0, _⟩ := isM_bounds ha
  unfold startM
  by_cases h : 0 ≤ a
  · rw [if_pos h]
    have := kindM_in (tyAt l a).f2.f0
    unfold kindOf
    omega
  · rw [if_neg h]; omega
theorem isM_neg {l : List S62} {h : Int} (h0 : -12 ≤ h) (h1 : h < 0) : isM l h = true := by simp [isM]; omega
theorem heapM_abs {l : List S62} {a c : Int} (ha : isM l a = true) (c0 : -12 ≤ c) (c1 : c < 0) : heapM l a c = absM (startM l a) c := by
  rw [heapM_eq ha (isM_neg c0 c1), if_pos c1, if_pos c1]
  unfold startM
  by_cases h : a < 0
  · rw [if_pos h, if_neg (by omega)]
  · rw [if_neg h, if_pos (by omega)]
theorem heapM_top {l : List S62} {b : Int} (hb : isM l b = true) : heapM l b (topM l b) = true := by
  obtain ⟨s0, s1⟩ := startM_in hb
  obtain ⟨⟨t0, t1⟩, t2⟩ := fam_in s0 s1
  unfold topM
  rw [heapM_abs hb t0 t1]
  exact t2
theorem UpOn.step {l : List S62} {b x y : Int} (hb : isM l b = true) (x0 : -12 ≤ x) (x1 : x < 0) (h : UpOn l b x y) (hn : heapM l b y = false) : UpOn l b x (upH y) ∧ y < upH y := by
  have hne : famH y ≠ y := by
    intro e
    have := heapM_top hb
    rw [← h.fam, e, hn] at this
    cases this
  obtain ⟨u0, u1, u2, u3, u4⟩ := up_step h.lo h.neg h.ten hne
  refine ⟨⟨u0, u1, u2, u3.trans h.fam, absM_trans x0 x1 h.lo h.neg u0 u1 h.xy u4, fun c c0 c1 hx hc => ?_⟩, (upH_gt h.lo h.neg).1⟩
  refine up_past h.lo h.neg c0 c1 h.ten (h.least c c0 c1 hx hc) ?_
  rintro rfl
  rw [hn] at hc
  cases hc
theorem UpOn.done {l : List S62} {b x y : Int} (h : UpOn l b x y) (hy : heapM l b y = true) : UpRes l b x y := ⟨h.lo, h.neg, hy, h.xy, h.least⟩
theorem UpOn.start {l : List S62} {b x : Int} (x0 : -12 ≤ x) (x1 : x < 0) (x2 : x ≠ -10) (hf : famH x = topM l b) : UpOn l b x x := ⟨x0, x1, x2, hf, absM_refl, fun c _ _ h _ => h⟩
/-- What Join answers. -/
def JoinOut (l : List S62) (a b h : Int) (ok : Bool) : Prop :=
  (ok = false ∧ ¬ (isM l a = true ∧ isM l b = true ∧ topM l a = topM l b)) ∨
  (ok = true ∧ (isM l a = true ∧ isM l b = true ∧ topM l a = topM l b) ∧
    ((0 ≤ a ∧ 0 ≤ b ∧ ∃ p q, ch l a = p ++ h :: q ∧ (∀ x ∈ p, heapM l b x = false) ∧ heapM l b h = true) ∨
     (0 ≤ a ∧ 0 ≤ b ∧ (∀ x ∈ ch l a, heapM l b x = false) ∧ UpRes l b (startM l a) h) ∨
     (¬ (0 ≤ a ∧ 0 ≤ b) ∧ heapM l a b = true ∧ h = b) ∨
     (¬ (0 ≤ a ∧ 0 ≤ b) ∧ heapM l b a = true ∧ h = a) ∨
     (¬ (0 ≤ a ∧ 0 ≤ b) ∧ heapM l a b = false ∧ heapM l b a = false ∧ UpRes l b (startM l a) h)))
theorem heapM_kinds {l : List S62} (hc : Clo l) (ht : tcount l ≤ 1048576) (hv : Valid l) {a c : Int} (a0 : 0 ≤ a) (c0 : 0 ≤ c) (h : heapM l a c = true) : kindOf l a = kindOf l c := by
  obtain ⟨ha, hcc⟩ := heapM_is h
  obtain ⟨_, a1⟩ := isM_bounds ha
  obtain ⟨_, c1⟩ := isM_bounds hcc
  have hfl := flat_length l
  obtain ⟨x, hx, hs⟩ := (heapM_rows ha hcc a0 c0).1 h
  have hm := ch_mem hc (down_of hv) (a.toNat + 1) a a0 a1 (by omega) x hx
  rw [← ch_kind hc hv (a.toNat + 1) a a0 a1 (by omega) x hx]
  exact kind_same hc ht hm.1.1 (by omega) c0 c1 hs
theorem heapM_bot {l : List S62} {a c : Int} (a1 : a < 0) (c0 : 0 ≤ c) (h : heapM l a c = true) : (a = -10 ∧ kindOf l c ≠ -1) ∨ (a = -2 ∧ kindOf l c = -1) := by
  obtain ⟨ha, hcc⟩ := heapM_is h
  rw [heapM_eq ha hcc, if_pos a1, if_neg (by omega)] at h
  simpa using h
theorem heapM_bot' {l : List S62} {a c : Int} (ha : isM l a = true) (hcc : isM l c = true) (a1 : a < 0) (c0 : 0 ≤ c) (h : (a = -10 ∧ kindOf l c ≠ -1) ∨ (a = -2 ∧ kindOf l c = -1)) : heapM l a c = true := by
  rw [heapM_eq ha hcc, if_pos a1, if_neg (by omega)]
  simpa using h
theorem top_mono {l : List S62} (hc : Clo l) (ht : tcount l ≤ 1048576) (hv : Valid l) {a c : Int} (h : heapM l a c = true) : topM l a = topM l c := by
  obtain ⟨ha, hcc⟩ := heapM_is h
  obtain ⟨c0, _⟩ := isM_bounds hcc
  unfold topM
  by_cases c1 : c < 0
  · rw [heapM_abs ha c0 c1] at h
    obtain ⟨s0, s1⟩ := startM_in ha
    have e : startM l c = c := by unfold startM; rw [if_neg (by omega)]
    rw [e]
    exact absM_fam s0 s1 c0 c1 h
  · have e : startM l c = kindOf l c := by unfold startM; rw [if_pos (by omega)]
    rw [e]
    by_cases a1 : a < 0
    · have e' : startM l a = a := by unfold startM; rw [if_neg (by omega)]
      rw [e']
      have kin := kindM_in (tyAt l c).f2.f0
      have kin' : kindOf l c = -1 ∨ kindOf l c = -8 ∨ kindOf l c = -9 := kin
      rcases heapM_bot a1 (by omega) h with ⟨rfl, h3⟩ | ⟨rfl, h3⟩
      · rcases kin' with k | k | k
        · exact absurd k h3
        · rw [k]; rfl
        · rw [k]; rfl
      · rw [h3]; rfl
    · have e' : startM l a = kindOf l a := by unfold startM; rw [if_pos (by omega)]
      rw [e', heapM_kinds hc ht hv (by omega) (by omega) h]
theorem ch_suffix {l : List S62} (hc : Clo l) (hd : Down l ((flat l).length : Int)) : ∀ (p : List Int) (a : Int), 0 ≤ a → a < ((flat l).length : Int) → ∀ (h : Int) (q : List Int), ch l a = p ++ h :: q → ch l h = h :: q := by
  intro p
  induction p with
  | nil =>
    intro a a0 a1 h q e
    rcases hz : (tyAt l a).f1 with _ | ⟨y, t⟩
    · have e2 := e
      rw [ch_end hz] at e2
      simp only [List.nil_append, List.cons.injEq] at e2
      obtain ⟨rfl, _⟩ := e2
      simpa using e
    · have e2 := e
      rw [(ch_on hc hd a0 a1 hz).1] at e2
      simp only [List.nil_append, List.cons.injEq] at e2
      obtain ⟨rfl, _⟩ := e2
      simpa using e
  | cons x p ih =>
    intro a a0 a1 h q e
    rcases hz : (tyAt l a).f1 with _ | ⟨y, t⟩
    · rw [ch_end hz] at e
      simp at e
    · obtain ⟨e1, y0, ya⟩ := ch_on hc hd a0 a1 hz
      rw [e1] at e
      simp only [List.cons_append, List.cons.injEq] at e
      exact ih y y0 (by omega) h q e.2
theorem heapM_same {l : List S62} (hc : Clo l) (ht : tcount l ≤ 1048576) (hv : Valid l) {b c x : Int} (x0 : 0 ≤ x) (x1 : x < ((flat l).length : Int)) (c0 : 0 ≤ c) (hs : SameT l x.toNat c.toNat) (h : heapM l b c = true) : heapM l b x = true := by
  obtain ⟨hb, hcc⟩ := heapM_is h
  obtain ⟨_, c1⟩ := isM_bounds hcc
  have hfl := flat_length l
  refine heapM_trans hc ht hv h ?_
  rw [heapM_rows hcc (by simp [isM]; omega) c0 x0]
  exact ⟨c, ch_self c, SameT.symm hc ht (by omega) (by omega) hs⟩
theorem meets_no {l : List S62} (hc : Clo l) (ht : tcount l ≤ 1048576) (hv : Valid l) {a b h : Int} (hj : JoinOut l a b h false) (c : Int) : heapM l a b = false ∧ (heapM l a c && heapM l b c) = false := by
  have hn : ¬ (isM l a = true ∧ isM l b = true ∧ topM l a = topM l b) := by
    rcases hj with ⟨_, h⟩ | ⟨h, _⟩
    · exact h
    · cases h
  constructor
  · rw [Bool.eq_false_iff]
    intro h1
    obtain ⟨ha, hb⟩ := heapM_is h1
    exact hn ⟨ha, hb, top_mono hc ht hv h1⟩
  · rw [Bool.eq_false_iff, ne_eq, Bool.and_eq_true]
    rintro ⟨h1, h2⟩
    exact hn ⟨(heapM_is h1).1, (heapM_is h2).1, (top_mono hc ht hv h1).trans (top_mono hc ht hv h2).symm⟩
theorem meets_yes {l : List S62} (hc : Clo l) (ht : tcount l ≤ 1048576) (hv : Valid l) {a b h : Int} (hj : JoinOut l a b h true) : heapM l a h = true ∧ heapM l b h = true ∧ ∀ c, heapM l a c = true → heapM l b c = true → heapM l h c = true := by
  have hfl := flat_length l
  have hd := down_of hv
  rcases hj with ⟨h, _⟩ | ⟨_, ⟨ha, hb, htop⟩, hj⟩
  · cases h
  obtain ⟨aL, aU⟩ := isM_bounds ha
  obtain ⟨bL, bU⟩ := isM_bounds hb
  have upcase : UpRes l b (startM l a) h → (∀ c, 0 ≤ c → heapM l a c = true → heapM l b c = true → False) → heapM l a h = true ∧ heapM l b h = true ∧ ∀ c, heapM l a c = true → heapM l b c = true → heapM l h c = true := by
    intro hu hno
    refine ⟨by rw [heapM_abs ha hu.lo hu.neg]; exact hu.xh, hu.bh, fun c h1 h2 => ?_⟩
    obtain ⟨c0, c1⟩ := isM_bounds (heapM_is h1).2
    by_cases cn : c < 0
    · rw [heapM_abs ha c0 cn] at h1
      rw [heapM_abs (isM_neg hu.lo hu.neg) c0 cn]
      have e : startM l h = h := by unfold startM; rw [if_neg (by have := hu.neg; omega)]
      rw [e]
      exact hu.least c c0 cn h1 h2
    · exact (hno c (by omega) h1 h2).elim
  rcases hj with ⟨a0, b0, p, q, hch, hp, hbh⟩ | ⟨a0, b0, hall, hu⟩ | ⟨hn, hab, rfl⟩ | ⟨hn, hba, rfl⟩ | ⟨hn, hab, hba, hu⟩
  · have hmem : h ∈ ch l a := by rw [hch]; simp
    have hm := ch_mem hc hd (a.toNat + 1) a a0 aU (by omega) h hmem
    have ih : isM l h = true := by simp [isM]; omega
    refine ⟨?_, hbh, fun c h1 h2 => ?_⟩
    · rw [heapM_rows ha ih a0 hm.1.1]
      exact ⟨h, hmem, SameT.refl hc ht (by omega)⟩
    · obtain ⟨c0, c1⟩ := isM_bounds (heapM_is h1).2
      by_cases cn : c < 0
      · rw [heapM_abs ha c0 cn] at h1
        rw [heapM_abs ih c0 cn]
        unfold startM at h1 ⊢
        rw [if_pos a0] at h1
        rw [if_pos hm.1.1, ch_kind hc hv (a.toNat + 1) a a0 aU (by omega) h hmem]
        exact h1
      · obtain ⟨x, hx, hs⟩ := (heapM_rows ha (heapM_is h1).2 a0 (by omega)).1 h1
        have hmx := ch_mem hc hd (a.toNat + 1) a a0 aU (by omega) x hx
        have hbx := heapM_same hc ht hv hmx.1.1 (by omega) (by omega) hs h2
        have hxs : x ∈ h :: q := by
          have hx' : x ∈ ch l a := hx
          rw [hch] at hx'
          rcases List.mem_append.1 hx' with h3 | h3
          · rw [hp x h3] at hbx; cases hbx
          · exact h3
        rw [heapM_rows ih (heapM_is h1).2 hm.1.1 (by omega)]
        exact ⟨x, by show x ∈ ch l h; rw [ch_suffix hc hd p a a0 aU h q hch]; exact hxs, hs⟩
  · refine upcase hu fun c c0 h1 h2 => ?_
    obtain ⟨x, hx, hs⟩ := (heapM_rows ha (heapM_is h1).2 a0 c0).1 h1
    have hmx := ch_mem hc hd (a.toNat + 1) a a0 aU (by omega) x hx
    have hbx := heapM_same hc ht hv hmx.1.1 (by omega) c0 hs h2
    rw [hall x hx] at hbx
    cases hbx
  · exact ⟨hab, heapM_refl hc ht hb, fun c _ h2 => h2⟩
  · exact ⟨heapM_refl hc ht ha, hba, fun c h1 _ => h1⟩
  · refine upcase hu fun c c0 h1 h2 => ?_
    have hcc := (heapM_is h1).2
    by_cases a1 : a < 0
    · have k1 := heapM_bot a1 c0 h1
      by_cases b1 : b < 0
      · have k2 := heapM_bot b1 c0 h2
        have e : a = b := by
          rcases k1 with ⟨h3, h4⟩ | ⟨h3, h4⟩
          · rcases k2 with ⟨h5, h6⟩ | ⟨h5, h6⟩
            · omega
            · exact absurd h6 h4
          · rcases k2 with ⟨h5, h6⟩ | ⟨h5, h6⟩
            · exact absurd h4 h6
            · omega
        rw [e, heapM_refl hc ht hb] at hab
        cases hab
      · rw [← heapM_kinds hc ht hv (by omega) c0 h2] at k1
        rw [heapM_bot' ha hb a1 (by omega) k1] at hab
        cases hab
    · have b1 : b < 0 := by omega
      have k2 := heapM_bot b1 c0 h2
      rw [← heapM_kinds hc ht hv (by omega) c0 h1] at k2
      rw [heapM_bot' hb ha b1 (by omega) k2] at hba
      cases hba
end Go.Proofs.YtfgglniigeagdaaDoor.Cn
