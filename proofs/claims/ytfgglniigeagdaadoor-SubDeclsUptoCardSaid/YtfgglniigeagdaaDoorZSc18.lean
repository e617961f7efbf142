/- Parts of the proof of subDecls_holds (18 of 20): what it says and shows stands at its declarations. -/
import Derived.Test.YtfgglniigeagdaaDoorZSc17
import Derived.LoopTactic
namespace Go.Proofs.YtfgglniigeagdaaDoor.Cn
set_option linter.unusedSimpArgs false
set_option linter.unusedVariables false
open Go.RowKit Go.Maps Go.Proofs.YtfgglniigeagdaaDoorW.PrintWords Go.Proofs.YtfgglniigeagdaaDoorW.PrintLast Go.Proofs.YtfgglniigeagdaaDoorW.PrintMore Go.Proofs.YtfgglniigeagdaaDoor.QD
noncomputable def valM (l : List S62) (a b : S74) : Bool := decide (a.f0 = b.f0) && (decide (1 ≤ a.f0) && decide (a.f0 ≤ 7)) && (decide (a.f0 ≠ 5) || (heapM l a.f2 b.f2 && (!a.f1 || b.f1)))
noncomputable def valsM (l : List S62) (a b : List S74) : Bool := decide (a.length = b.length) && (a.zip b).all fun p => valM l p.1 p.2
noncomputable def fieldM (l : List S62) (a b : S118) : Bool := (a.f1 == b.f1) && valM l a.f0 b.f0 && (!a.f1 || valM l b.f0 a.f0)
noncomputable def compM (l : List S62) (a b : S51) : Bool :=
  decide (a.f0 = b.f0) && (if a.f0 = 1 then valsM l b.f1 a.f1 && valsM l a.f2 b.f2
    else (if a.f0 = 2 then decide (b.f3.length ≤ a.f3.length) else decide (a.f0 = 3) && decide (a.f3.length = 1) && decide (b.f3.length = 1)) && (a.f3.zip b.f3).all fun p => fieldM l p.1 p.2)
set_option maxRecDepth 100000 in
set_option maxHeartbeats 4000000 in
theorem r7Val_calls (A : Option Addr) (c : Nat) (l : List S62) (a b : S74) (w : World) (hl : LA w A c l) (hc : Clo l) :
    Calls Tryd.prog 96 #[.slice A l.length c, .agg #[.int .i64 a.f0, .bool a.f1, .int .i64 a.f2], .agg #[.int .i64 b.f0, .bool b.f1, .int .i64 b.f2]] w fun e w' => e = .returned (.bool (valM l a b)) ∧ Below w.heap.size w w' := by
  obtain ⟨x0, x1, x2⟩ := a
  obtain ⟨y0, y1, y2⟩ := b
  dsimp only
  have ba : Below w.heap.size w ((w.alloc (.cells #[.int .i64 x0, .bool x1, .int .i64 x2] 74)).alloc (.cells #[.int .i64 y0, .bool y1, .int .i64 y2] 74)) := ((Below.refl _ _).alloc (Nat.le_refl _) _).alloc (by simp) _
  have BA := Aside0.mk ba
  have K := r7Heap_calls A c l x2 y2 _ (hl.below ba) hc
  clear hl hc ba
  by_cases h1 : x0 = y0
  · subst h1
    by_cases h2 : 1 ≤ x0
    · by_cases h3 : x0 ≤ 7
      · by_cases h4 : x0 = 5
        · subst h4
          obtain ⟨h, hh⟩ : ∃ h, h = heapM l x2 y2 := ⟨_, rfl⟩
          have EM : Aside0 (valM l ⟨5, x1, x2⟩ ⟨5, y1, y2⟩ = (h && (!x1 || y1))) := ⟨by rw [hh]; simp [valM]⟩
          rw [← hh] at K
          clear h2 h3 hh
          go_enter Tryd.func96, Tryd.ntmps96
          go_wp2_with fail
          refine K.mono ?_
          rintro e w1 ⟨rfl, hb⟩
          have B1 : Aside0 (Below w.heap.size w w1) := ⟨BA.out.trans (hb.mono BA.out.size)⟩
          have q0 := blk_below (blk_alloc (blk_new w (.cells #[.int .i64 5, .bool x1, .int .i64 x2] 74)) (.cells #[.int .i64 5, .bool y1, .int .i64 y2] 74)) hb
          have q1 : w1.heap[w.heap.size + 1]? = some (.cells #[.int .i64 5, .bool y1, .int .i64 y2] 74 (0, 0)) := by have h_ := blk_below (blk_new (w.alloc (.cells #[.int .i64 5, .bool x1, .int .i64 x2] 74)) (.cells #[.int .i64 5, .bool y1, .int .i64 y2] 74)) hb; rw [World.size_alloc] at h_; exact h_
          have z0 : w1.cell? ⟨w.heap.size, 1, none⟩ = some (.bool x1) := (blk_cell q0 1).trans rfl
          have z1 : w1.cell? ⟨w.heap.size + 1, 1, none⟩ = some (.bool y1) := (blk_cell q1 1).trans rfl
          clear hb K q0 q1
          cases h <;> cases x1 <;>
            (go_wp2_with fail
             go_ret
             exact ⟨by rw [EM.out]; rfl, B1.out⟩)
        · have EM : Aside0 (valM l ⟨x0, x1, x2⟩ ⟨x0, y1, y2⟩ = true) := ⟨by simp [valM, h2, h3, h4]⟩
          clear K
          have hlt : ¬ x0 < 1 := by omega
          have hgt : ¬ 7 < x0 := by omega
          go_enter Tryd.func96, Tryd.ntmps96
          go_wp2_with fail
          go_ret
          exact ⟨by rw [EM.out]; rfl, BA.out⟩
      · have EM : Aside0 (valM l ⟨x0, x1, x2⟩ ⟨x0, y1, y2⟩ = false) := ⟨by simp [valM, h2, h3]⟩
        clear K
        have hlt : ¬ x0 < 1 := by omega
        have hgt : 7 < x0 := by omega
        go_enter Tryd.func96, Tryd.ntmps96
        go_wp2_with fail
        go_ret
        exact ⟨by rw [EM.out]; rfl, BA.out⟩
    · have EM : Aside0 (valM l ⟨x0, x1, x2⟩ ⟨x0, y1, y2⟩ = false) := ⟨by simp [valM, h2]⟩
      clear K
      have hlt : x0 < 1 := by omega
      go_enter Tryd.func96, Tryd.ntmps96
      go_wp2_with fail
      go_ret
      exact ⟨by rw [EM.out]; rfl, BA.out⟩
  · have EM : Aside0 (valM l ⟨x0, x1, x2⟩ ⟨y0, y1, y2⟩ = false) := ⟨by simp [valM, h1]⟩
    have e1 : (x0 != y0) = true := by simp [h1]
    clear K
    go_enter Tryd.func96, Tryd.ntmps96
    go_wp2_with fail
    go_ret
    exact ⟨by rw [EM.out]; rfl, BA.out⟩
theorem zip_snoc {α β : Type} {f : α × β → Bool} {us : List α} {vs : List β} {k : Nat} {x : α} {y : β} (hx : us[k]? = some x) (hy : vs[k]? = some y) : ((us.zip vs).take (k + 1)).all f = (((us.zip vs).take k).all f && f (x, y)) := by
  have : (us.zip vs)[k]? = some (x, y) := by exact List.getElem?_zip_eq_some.2 ⟨hx, hy⟩
  rw [List.take_add_one, this, List.all_append]
  simp
theorem zip_stop {α β : Type} {f : α × β → Bool} {us : List α} {vs : List β} {k : Nat} {x : α} {y : β} (hx : us[k]? = some x) (hy : vs[k]? = some y) (h : f (x, y) = false) : (us.zip vs).all f = false := by
  have : (us.zip vs)[k]? = some (x, y) := by exact List.getElem?_zip_eq_some.2 ⟨hx, hy⟩
  rw [List.all_eq_false]
  exact ⟨_, List.mem_of_getElem? this, by rw [h]; simp⟩
set_option maxRecDepth 100000 in
set_option maxHeartbeats 8000000 in
theorem r7Vals_calls (A : Option Addr) (c : Nat) (l : List S62) (Aa : Option Addr) (ca : Nat) (us : List S74) (Ab : Option Addr) (cb : Nat) (vs : List S74) (w : World) (hl : LA w A c l) (hc : Clo l) (hA : Kd.C k74 w Aa us.length us) (hB : Kd.C k74 w Ab vs.length vs) (hn : us.length ≤ 1048576) :
    Calls Tryd.prog 88 #[.slice A l.length c, .slice Aa us.length ca, .slice Ab vs.length cb] w fun e w' => e = .returned (.bool (valsM l us vs)) ∧ Below w.heap.size w w' := by
  have HL := Aside0.mk hl
  have HC := Aside0.mk hc
  have HA := Aside0.mk hA
  have HB := Aside0.mk hB
  clear hl hc hA hB
  by_cases hlen : us.length = vs.length
  rotate_left
  · have EM : Aside0 (valsM l us vs = false) := ⟨by simp [valsM, hlen]⟩
    have e1 : ((us.length : Int) != (vs.length : Int)) = true := by simp; omega
    go_enter Tryd.func88, Tryd.ntmps88
    go_wp2_with fail
    go_ret
    exact ⟨by rw [EM.out]; rfl, Below.refl _ _⟩
  have EV : Aside0 (valsM l us vs = (us.zip vs).all fun p => valM l p.1 p.2) := ⟨by simp [valsM, hlen]⟩
  obtain ⟨n, hnn⟩ : ∃ n, n = us.length := ⟨_, rfl⟩
  have NA := Aside0.mk hnn
  have NB : Aside0 (n = vs.length) := ⟨hnn.trans hlen⟩
  rw [← hlen, ← hnn]
  rw [← hnn] at hn
  rw [← NA.out] at HA
  rw [← NB.out] at HB
  clear hnn hlen
  go_enter Tryd.func88, Tryd.ntmps88
  go_wp2_with fail
  go_loopw [7] (fun i W => ∃ (k : Nat), i = .int .i64 k ∧ k ≤ n ∧ ((us.zip vs).take k).all (fun p => valM l p.1 p.2) = true ∧ Below w.heap.size w W) (fun i _ => n - (intOf i).toNat)
  case atStart => exact ⟨0, rfl, Nat.zero_le _, by simp, Below.refl _ _⟩
  case round =>
    obtain ⟨k, rfl, hk, hall, hbw⟩ := hrel
    have W0 := Aside0.mk hbw
    have ALL := Aside0.mk hall
    clear hall hbw
    have k0 : (0 : Int) ≤ (k : Int) := Int.natCast_nonneg k
    by_cases hlk : k < n
    · obtain ⟨aa, ea, d0, d1, d2⟩ := at_T74 HA.out (k : Int) k0 (by omega)
      obtain ⟨ab, eb, f0, f1, f2⟩ := at_T74 HB.out (k : Int) k0 (by omega)
      subst ea
      subst eb
      have XA : Aside0 (us[k]? = some (rd_T74 us (k : Int))) := ⟨by unfold rd_T74; rw [Int.toNat_natCast, List.getD_eq_getElem?_getD, List.getElem?_eq_getElem (by have := NA.out; omega)]; rfl⟩
      have XB : Aside0 (vs[k]? = some (rd_T74 vs (k : Int))) := ⟨by unfold rd_T74; rw [Int.toNat_natCast, List.getD_eq_getElem?_getD, List.getElem?_eq_getElem (by have := NB.out; omega)]; rfl⟩
      obtain ⟨x, hx⟩ : ∃ x, x = rd_T74 us (k : Int) := ⟨_, rfl⟩
      obtain ⟨y, hy⟩ : ∃ y, y = rd_T74 vs (k : Int) := ⟨_, rfl⟩
      rw [← hx] at d0 d1 d2 XA
      rw [← hy] at f0 f1 f2 XB
      clear hx hy
      simp only [Int.toNat_natCast] at d0 d1 d2 f0 f1 f2
      replace d0 := (W0.out.cell (World.block_lt_of_cell? w _ d0)).trans d0
      replace d1 := (W0.out.cell (World.block_lt_of_cell? w _ d1)).trans d1
      replace d2 := (W0.out.cell (World.block_lt_of_cell? w _ d2)).trans d2
      replace f0 := (W0.out.cell (World.block_lt_of_cell? w _ f0)).trans f0
      replace f1 := (W0.out.cell (World.block_lt_of_cell? w _ f1)).trans f1
      replace f2 := (W0.out.cell (World.block_lt_of_cell? w _ f2)).trans f2
      have kl : (k : Int) < (n : Int) := by omega
      go_wp2_with fail
      refine start_ (n := 11) (S := fun w' => w'.cell? (aa.add (k * 3)) = some (.int .i64 x.f0) ∧ w'.cell? ⟨(aa.add (k * 3)).block, (aa.add (k * 3)).off + 1, none⟩ = some (.bool x.f1) ∧ w'.cell? ⟨(aa.add (k * 3)).block, (aa.add (k * 3)).off + 2, none⟩ = some (.int .i64 x.f2) ∧ w'.cell? (ab.add (k * 3)) = some (.int .i64 y.f0) ∧ w'.cell? ⟨(ab.add (k * 3)).block, (ab.add (k * 3)).off + 1, none⟩ = some (.bool y.f1) ∧ w'.cell? ⟨(ab.add (k * 3)).block, (ab.add (k * 3)).off + 2, none⟩ = some (.int .i64 y.f2)) (ds := []) #[false, false, false, false, false, false, false, false, false, false, false] (by kernel_rfl) rfl rfl ⟨d0, d1, d2, f0, f1, f2⟩ (fun hHeld => ?_)
      have BD : Aside0 (Below w.heap.size w wr.drew) := ⟨W0.out.drew⟩
      replace d0 : wr.drew.cell? _ = _ := d0
      replace d1 : wr.drew.cell? _ = _ := d1
      replace d2 : wr.drew.cell? _ = _ := d2
      replace f0 : wr.drew.cell? _ = _ := f0
      replace f1 : wr.drew.cell? _ = _ := f1
      replace f2 : wr.drew.cell? _ = _ := f2
      generalize wr.drew = w5 at BD d0 d1 d2 f0 f1 f2 hHeld ⊢
      refine pure_ (i := 0) (N := some 19) (v := ?_) (a' := ?_) #[true, false, false, false, false, false, false, false, false, false, false] rfl rfl (by kernel_rfl) (fun _ _ _ h => h) (Or.inl ⟨by rfl, ?_⟩) ?_ ?_
      rotate_left
      · intro w'
        go_simp
        with_reducible rfl
      rotate_left
      · simp only [Act.put, List.setIfInBounds_toArray, List.set_cons_zero, List.set_cons_succ, i64_w, i32_w]
        rfl
      refine pure_ (i := 1) (N := some 20) (v := ?_) (a' := ?_) #[true, true, false, false, false, false, false, false, false, false, false] rfl rfl (by kernel_rfl) (fun _ _ _ h => h) (Or.inl ⟨by rfl, ?_⟩) ?_ ?_
      rotate_left
      · intro w'
        go_simp
        with_reducible rfl
      rotate_left
      · simp only [Act.put, List.setIfInBounds_toArray, List.set_cons_zero, List.set_cons_succ, i64_w, i32_w]
        rfl
      refine pure_ (i := 2) (N := some 21) (v := ?_) (a' := ?_) #[true, true, true, false, false, false, false, false, false, false, false] rfl rfl (by kernel_rfl) (fun _ _ _ h => h) (Or.inl ⟨by rfl, ?_⟩) ?_ ?_
      rotate_left
      · intro w'
        go_simp
        with_reducible rfl
      rotate_left
      · simp only [Act.put, List.setIfInBounds_toArray, List.set_cons_zero, List.set_cons_succ, i64_w, i32_w]
        rfl
      refine pure_ (i := 3) (N := some 22) (v := ?_) (a' := ?_) #[true, true, true, true, false, false, false, false, false, false, false] rfl rfl (by kernel_rfl) (fun _ _ _ h => h) (Or.inl ⟨by rfl, ?_⟩) ?_ ?_
      rotate_left
      · intro w'
        go_simp
        with_reducible rfl
      rotate_left
      · simp only [Act.put, List.setIfInBounds_toArray, List.set_cons_zero, List.set_cons_succ, i64_w, i32_w]
        rfl
      refine pure_ (i := 5) (N := some 24) (v := ?_) (a' := ?_) #[true, true, true, true, false, true, false, false, false, false, false] rfl rfl (by kernel_rfl) (fun _ _ _ h => h) (Or.inl ⟨by rfl, ?_⟩) ?_ ?_
      rotate_left
      · intro w'
        go_simp
        with_reducible rfl
      rotate_left
      · simp only [Act.put, List.setIfInBounds_toArray, List.set_cons_zero, List.set_cons_succ, i64_w, i32_w]
        rfl
      refine pure_ (i := 6) (N := some 25) (v := ?_) (a' := ?_) #[true, true, true, true, false, true, true, false, false, false, false] rfl rfl (by kernel_rfl) (fun _ _ _ h => h) (Or.inl ⟨by rfl, ?_⟩) ?_ ?_
      rotate_left
      · intro w'
        go_simp
        with_reducible rfl
      rotate_left
      · simp only [Act.put, List.setIfInBounds_toArray, List.set_cons_zero, List.set_cons_succ, i64_w, i32_w]
        rfl
      refine pure_ (i := 7) (N := some 26) (v := ?_) (a' := ?_) #[true, true, true, true, false, true, true, true, false, false, false] rfl rfl (by kernel_rfl) (fun _ _ _ h => h) (Or.inl ⟨by rfl, ?_⟩) ?_ ?_
      rotate_left
      · intro w'
        go_simp
        with_reducible rfl
      rotate_left
      · simp only [Act.put, List.setIfInBounds_toArray, List.set_cons_zero, List.set_cons_succ, i64_w, i32_w]
        rfl
      refine take_ (i := 4) (N := some 23) (v := ?_) (a' := ?_) #[true, true, true, true, true, true, true, true, false, false, false] rfl rfl (by kernel_rfl) (fun _ _ _ h => h) (Or.inl ⟨by rfl, ?_⟩) hHeld ?_ ?_
      rotate_left
      · rintro w' ⟨s0, s1, s2, s3, s4, s5⟩
        go_simp
        with_reducible rfl
      rotate_left
      · simp only [Act.put, List.setIfInBounds_toArray, List.set_cons_zero, List.set_cons_succ, i64_w, i32_w]
        rfl
      refine take_ (i := 8) (N := some 27) (v := ?_) (a' := ?_) #[true, true, true, true, true, true, true, true, true, false, false] rfl rfl (by kernel_rfl) (fun _ _ _ h => h) (Or.inl ⟨by rfl, ?_⟩) hHeld ?_ ?_
      rotate_left
      · rintro w' ⟨s0, s1, s2, s3, s4, s5⟩
        go_simp
        with_reducible rfl
      rotate_left
      · simp only [Act.put, List.setIfInBounds_toArray, List.set_cons_zero, List.set_cons_succ, i64_w, i32_w]
        rfl
      refine one_ (i := 9) (N := some 28) #[true, true, true, true, true, true, true, true, true, true, false] rfl rfl (by kernel_rfl) (by decide) (fun K hK => ?_)
      refine goes_ Tryd.func96 (by kernel_rfl) rfl #[.slice A l.length c, .agg #[.int .i64 x.f0, .bool x.f1, .int .i64 x.f2], .agg #[.int .i64 y.f0, .bool y.f1, .int .i64 y.f2]] (by rfl) rfl rfl (by simp only [List.map_toArray, List.map_cons, List.map_nil]; rfl) ?_
      refine (r7Val_calls A c l x y w5 (HL.out.below BD.out) HC.out).mono ?_
      rintro e w6 ⟨rfl, hb6⟩
      have B6 := Aside0.mk (BD.out.trans (hb6.mono BD.out.size))
      refine ⟨_, rfl, ?_⟩
      refine hK.out _ _ ⟨(hb6.cell (World.block_lt_of_cell? w5 _ d0)).trans d0, (hb6.cell (World.block_lt_of_cell? w5 _ d1)).trans d1, (hb6.cell (World.block_lt_of_cell? w5 _ d2)).trans d2, (hb6.cell (World.block_lt_of_cell? w5 _ f0)).trans f0, (hb6.cell (World.block_lt_of_cell? w5 _ f1)).trans f1, (hb6.cell (World.block_lt_of_cell? w5 _ f2)).trans f2⟩ (fun hHeld => ?_)
      clear hK K
      refine norm_ (a' := ?_) ?_ ?_
      rotate_left
      · show Act.put _ (some 28) _ = _
        simp only [Act.put, List.setIfInBounds_toArray, List.set_cons_zero, List.set_cons_succ, i64_w, i32_w]
        rfl
      refine pure_ (i := 10) (N := some 29) (v := ?_) (a' := ?_) #[true, true, true, true, true, true, true, true, true, true, true] rfl rfl (by kernel_rfl) (fun _ _ _ h => h) (Or.inl ⟨by rfl, ?_⟩) ?_ ?_
      rotate_left
      · intro w'
        go_simp
        with_reducible rfl
      rotate_left
      · simp only [Act.put, List.setIfInBounds_toArray, List.set_cons_zero, List.set_cons_succ, i64_w, i32_w]
        rfl
      refine done_ (by kernel_rfl) ?_
      
      clear d0 d1 d2 f0 f1 f2
      cases hv : valM l x y with
      | false =>
        have EF : Aside0 (valsM l us vs = false) := ⟨by rw [EV.out]; exact zip_stop XA.out XB.out hv⟩
        clear hv
        go_wp2_with fail
        go_ret
        exact ⟨by rw [EF.out]; rfl, B6.out⟩
      | true =>
        have ES : Aside0 (((us.zip vs).take (k + 1)).all (fun p => valM l p.1 p.2) = true) := ⟨by rw [zip_snoc XA.out XB.out, ALL.out, hv]; rfl⟩
        clear hv
        go_wp2_with fail
        go_roundw
        case rel => exact ⟨k + 1, by go_num, by omega, ES.out, B6.out⟩
        case measure => simp [intOf]; omega
    · obtain rfl : k = n := by omega
      have EF : Aside0 (valsM l us vs = true) := ⟨by
        have h := ALL.out
        rw [List.take_of_length_le (by rw [List.length_zip, ← NA.out, ← NB.out]; omega)] at h
        rw [EV.out]; exact h⟩
      clear hk hlk
      go_wp2_with fail
      go_ret
      exact ⟨by rw [EF.out]; rfl, W0.out⟩
set_option maxRecDepth 100000 in
set_option maxHeartbeats 4000000 in
theorem r7field_calls (A : Option Addr) (c : Nat) (l : List S62) (a b : S118) (w : World) (hl : LA w A c l) (hc : Clo l) :
    Calls Tryd.prog 89 #[.slice A l.length c, .agg #[.int .i64 a.f0.f0, .bool a.f0.f1, .int .i64 a.f0.f2, .bool a.f1], .agg #[.int .i64 b.f0.f0, .bool b.f0.f1, .int .i64 b.f0.f2, .bool b.f1]] w fun e w' => e = .returned (.bool (fieldM l a b)) ∧ Below w.heap.size w w' := by
  obtain ⟨x, mx⟩ := a
  obtain ⟨y, my⟩ := b
  dsimp only
  have ba : Below w.heap.size w ((w.alloc (.cells #[.int .i64 x.f0, .bool x.f1, .int .i64 x.f2, .bool mx] 118)).alloc (.cells #[.int .i64 y.f0, .bool y.f1, .int .i64 y.f2, .bool my] 118)) := ((Below.refl _ _).alloc (Nat.le_refl _) _).alloc (by simp) _
  have BA := Aside0.mk ba
  have HL := Aside0.mk hl
  have HC := Aside0.mk hc
  have K := r7Val_calls A c l x y _ (hl.below ba) hc
  clear hl hc ba
  by_cases hm : mx = my
  rotate_left
  · have EM : Aside0 (fieldM l ⟨x, mx⟩ ⟨y, my⟩ = false) := ⟨by simp [fieldM, hm]⟩
    have e1 : (mx == my) = false := by simp [hm]
    clear K
    go_enter Tryd.func89, Tryd.ntmps89
    go_wp2_with fail
    go_ret
    exact ⟨by rw [EM.out]; rfl, BA.out⟩
  subst hm
  cases hv : valM l x y with
  | false =>
    have EM : Aside0 (fieldM l ⟨x, mx⟩ ⟨y, mx⟩ = false) := ⟨by simp [fieldM, hv]⟩
    rw [hv] at K
    clear hv
    go_enter Tryd.func89, Tryd.ntmps89
    go_wp2_with fail
    refine K.mono ?_
    rintro e w1 ⟨rfl, hb⟩
    have B1 : Aside0 (Below w.heap.size w w1) := ⟨BA.out.trans (hb.mono BA.out.size)⟩
    clear hb K
    go_wp2_with fail
    go_ret
    exact ⟨by rw [EM.out]; rfl, B1.out⟩
  | true =>
    have EM : Aside0 (fieldM l ⟨x, mx⟩ ⟨y, mx⟩ = (!mx || valM l y x)) := ⟨by simp [fieldM, hv]⟩
    rw [hv] at K
    clear hv
    go_enter Tryd.func89, Tryd.ntmps89
    go_wp2_with fail
    refine K.mono ?_
    rintro e w1 ⟨rfl, hb⟩
    have B1 : Aside0 (Below w.heap.size w w1) := ⟨BA.out.trans (hb.mono BA.out.size)⟩
    have q0 := blk_below (blk_alloc (blk_new w (.cells #[.int .i64 x.f0, .bool x.f1, .int .i64 x.f2, .bool mx] 118)) (.cells #[.int .i64 y.f0, .bool y.f1, .int .i64 y.f2, .bool mx] 118)) hb
    have q1 : w1.heap[w.heap.size + 1]? = some (.cells #[.int .i64 y.f0, .bool y.f1, .int .i64 y.f2, .bool mx] 118 (0, 0)) := by have h_ := blk_below (blk_new (w.alloc (.cells #[.int .i64 x.f0, .bool x.f1, .int .i64 x.f2, .bool mx] 118)) (.cells #[.int .i64 y.f0, .bool y.f1, .int .i64 y.f2, .bool mx] 118)) hb; rw [World.size_alloc] at h_; exact h_
    have z00 : w1.cell? ⟨w.heap.size, 0, none⟩ = some (.int .i64 x.f0) := (blk_cell q0 0).trans rfl
    have z01 : w1.cell? ⟨w.heap.size, 1, none⟩ = some (.bool x.f1) := (blk_cell q0 1).trans rfl
    have z02 : w1.cell? ⟨w.heap.size, 2, none⟩ = some (.int .i64 x.f2) := (blk_cell q0 2).trans rfl
    have z03 : w1.cell? ⟨w.heap.size, 3, none⟩ = some (.bool mx) := (blk_cell q0 3).trans rfl
    have z10 : w1.cell? ⟨w.heap.size + 1, 0, none⟩ = some (.int .i64 y.f0) := (blk_cell q1 0).trans rfl
    have z11 : w1.cell? ⟨w.heap.size + 1, 1, none⟩ = some (.bool y.f1) := (blk_cell q1 1).trans rfl
    have z12 : w1.cell? ⟨w.heap.size + 1, 2, none⟩ = some (.int .i64 y.f2) := (blk_cell q1 2).trans rfl
    clear hb K q0 q1
    cases mx with
    | false =>
      go_wp2_with fail
      go_ret
      exact ⟨by rw [EM.out]; rfl, B1.out⟩
    | true =>
      go_wp2_with fail
      refine (r7Val_calls A c l y x w1 (HL.out.below B1.out) HC.out).mono ?_
      rintro e w2 ⟨rfl, hb⟩
      have B2 := Aside0.mk (B1.out.trans (hb.mono B1.out.size))
      clear hb
      go_wp2_with fail
      go_ret
      exact ⟨by rw [EM.out]; rfl, B2.out⟩
/-- A composite type's rows, in memory of others. -/
structure CIn2 (w : World) (a : S51) (P1 R1 F1 : Option Addr) : Prop where
  p : Kd.C k74 w P1 a.f1.length a.f1
  r : Kd.C k74 w R1 a.f2.length a.f2
  f : Kd.C k118 w F1 a.f3.length a.f3
  lp : a.f1.length ≤ 1048576
  lr : a.f2.length ≤ 1048576
  lf : a.f3.length ≤ 1048576
theorem CIn2.below {w w' : World} {a : S51} {P1 R1 F1 : Option Addr} (h : CIn2 w a P1 R1 F1) (hb : Below w.heap.size w w') : CIn2 w' a P1 R1 F1 := ⟨Kd.C_below h.p hb, Kd.C_below h.r hb, Kd.C_below h.f hb, h.lp, h.lr, h.lf⟩
set_option maxRecDepth 100000 in
set_option maxHeartbeats 8000000 in
theorem r7Comp_calls (A : Option Addr) (c : Nat) (l : List S62) (a : S51) (P1 : Option Addr) (p1 : Nat) (R1 : Option Addr) (r1 : Nat) (F1 : Option Addr) (f1 : Nat) (b : S51) (P2 : Option Addr) (p2 : Nat) (R2 : Option Addr) (r2 : Nat) (F2 : Option Addr) (f2 : Nat) (w : World) (hl : LA w A c l) (hc : Clo l) (ha : CIn2 w a P1 R1 F1) (hb : CIn2 w b P2 R2 F2) :
    Calls Tryd.prog 70 #[.slice A l.length c, .agg #[.int .i64 a.f0, .slice P1 a.f1.length p1, .slice R1 a.f2.length r1, .slice F1 a.f3.length f1], .agg #[.int .i64 b.f0, .slice P2 b.f1.length p2, .slice R2 b.f2.length r2, .slice F2 b.f3.length f2]] w fun e w' => e = .returned (.bool (compM l a b)) ∧ Below w.heap.size w w' := by
  have ba : Below w.heap.size w ((w.alloc (.cells #[.int .i64 a.f0, .slice P1 a.f1.length p1, .slice R1 a.f2.length r1, .slice F1 a.f3.length f1] 51)).alloc (.cells #[.int .i64 b.f0, .slice P2 b.f1.length p2, .slice R2 b.f2.length r2, .slice F2 b.f3.length f2] 51)) := ((Below.refl _ _).alloc (Nat.le_refl _) _).alloc (by simp) _
  have HL := Aside0.mk hl
  have HC := Aside0.mk hc
  have HA := Aside0.mk ha
  have HB := Aside0.mk hb
  have K := r7closed_yes A c l _ (hl.below ba) hc
  have BA := Aside0.mk ba
  have EM : Aside0 (compM l a b = compM l a b) := ⟨rfl⟩
  clear hl hc ha hb ba
  go_enter Tryd.func70, Tryd.ntmps70
  go_wp2_with fail
  refine K.mono ?_
  rintro e w1 ⟨rfl, hb⟩
  have B1 : Aside0 (Below w.heap.size w w1) := ⟨BA.out.trans (hb.mono BA.out.size)⟩
  have q0 := blk_below (blk_alloc (blk_new w (.cells #[.int .i64 a.f0, .slice P1 a.f1.length p1, .slice R1 a.f2.length r1, .slice F1 a.f3.length f1] 51)) (.cells #[.int .i64 b.f0, .slice P2 b.f1.length p2, .slice R2 b.f2.length r2, .slice F2 b.f3.length f2] 51)) hb
  have q1 : w1.heap[w.heap.size + 1]? = some (.cells #[.int .i64 b.f0, .slice P2 b.f1.length p2, .slice R2 b.f2.length r2, .slice F2 b.f3.length f2] 51 (0, 0)) := by have h_ := blk_below (blk_new (w.alloc (.cells #[.int .i64 a.f0, .slice P1 a.f1.length p1, .slice R1 a.f2.length r1, .slice F1 a.f3.length f1] 51)) (.cells #[.int .i64 b.f0, .slice P2 b.f1.length p2, .slice R2 b.f2.length r2, .slice F2 b.f3.length f2] 51)) hb; rw [World.size_alloc] at h_; exact h_
  have Q := Aside0.mk (And.intro q0 q1)
  clear hb K q0 q1 BA
  have z00 : w1.cell? ⟨w.heap.size, 0, none⟩ = some (.int .i64 a.f0) := (blk_cell Q.out.1 0).trans rfl
  have z01 : w1.cell? ⟨w.heap.size, 1, none⟩ = some (.slice P1 a.f1.length p1) := (blk_cell Q.out.1 1).trans rfl
  have z02 : w1.cell? ⟨w.heap.size, 2, none⟩ = some (.slice R1 a.f2.length r1) := (blk_cell Q.out.1 2).trans rfl
  have z03 : w1.cell? ⟨w.heap.size, 3, none⟩ = some (.slice F1 a.f3.length f1) := (blk_cell Q.out.1 3).trans rfl
  have z10 : w1.cell? ⟨w.heap.size + 1, 0, none⟩ = some (.int .i64 b.f0) := (blk_cell Q.out.2 0).trans rfl
  have z11 : w1.cell? ⟨w.heap.size + 1, 1, none⟩ = some (.slice P2 b.f1.length p2) := (blk_cell Q.out.2 1).trans rfl
  have z12 : w1.cell? ⟨w.heap.size + 1, 2, none⟩ = some (.slice R2 b.f2.length r2) := (blk_cell Q.out.2 2).trans rfl
  have z13 : w1.cell? ⟨w.heap.size + 1, 3, none⟩ = some (.slice F2 b.f3.length f2) := (blk_cell Q.out.2 3).trans rfl
  by_cases hk : a.f0 = b.f0
  rotate_left
  · have EF : Aside0 (compM l a b = false) := ⟨by simp [compM, hk]⟩
    have e1 : (a.f0 != b.f0) = true := by simp [hk]
    go_wp2_with fail
    go_ret
    exact ⟨by rw [EF.out]; rfl, B1.out⟩
  have e1 : (a.f0 != b.f0) = false := by simp [hk]
  by_cases k1 : a.f0 = 1
  · have EV : Aside0 (compM l a b = (valsM l b.f1 a.f1 && valsM l a.f2 b.f2)) := ⟨by simp [compM, hk.symm, k1]⟩
    have kb1 : b.f0 = 1 := by omega
    rw [k1] at z00
    rw [kb1] at z10
    clear e1 hk
    go_wp2_with fail
    refine (r7Vals_calls A c l P2 p2 b.f1 P1 p1 a.f1 w1 (HL.out.below B1.out) HC.out (HB.out.below B1.out).p (HA.out.below B1.out).p HB.out.lp).mono ?_
    rintro e w2 ⟨rfl, hb⟩
    have B2 := Aside0.mk (B1.out.trans (hb.mono B1.out.size))
    have y02 := (hb.cell (World.block_lt_of_cell? w1 _ z02)).trans z02
    have y12 := (hb.cell (World.block_lt_of_cell? w1 _ z12)).trans z12
    clear hb z00 z01 z02 z03 z10 z11 z12 z13
    cases h1 : valsM l b.f1 a.f1 with
    | false =>
      rw [h1] at EV
      go_wp2_with fail
      go_ret
      exact ⟨by rw [EV.out]; rfl, B2.out⟩
    | true =>
      rw [h1] at EV
      go_wp2_with fail
      refine (r7Vals_calls A c l R1 r1 a.f2 R2 r2 b.f2 w2 (HL.out.below B2.out) HC.out (HA.out.below B2.out).r (HB.out.below B2.out).r HA.out.lr).mono ?_
      rintro e w3 ⟨rfl, hb⟩
      have B3 := Aside0.mk (B2.out.trans (hb.mono B2.out.size))
      clear hb
      go_wp2_with fail
      go_ret
      exact ⟨by rw [EV.out]; rfl, B3.out⟩

  · by_cases k2 : a.f0 = 2
    · have kb2 : b.f0 = 2 := by omega
      have EV0 : Aside0 (compM l a b = (decide (b.f3.length ≤ a.f3.length) && (a.f3.zip b.f3).all fun p => fieldM l p.1 p.2)) := ⟨by simp [compM, hk.symm, k2]⟩
      rw [k2] at z00
      rw [kb2] at z10
      clear e1 hk
      by_cases hlen : b.f3.length ≤ a.f3.length
      rotate_left
      · have EF : Aside0 (compM l a b = false) := ⟨by rw [EV0.out]; simp; omega⟩
        have hl2 : (a.f3.length : Int) < (b.f3.length : Int) := by omega
        go_wp2_with fail
        go_ret
        exact ⟨by rw [EF.out]; rfl, B1.out⟩
      have EV : Aside0 (compM l a b = (a.f3.zip b.f3).all fun p => fieldM l p.1 p.2) := ⟨by rw [EV0.out]; simp [hlen]⟩
      have HLE := Aside0.mk hlen
      have hlb := HB.out.lf
      have hl2 : ¬ ((a.f3.length : Int) < (b.f3.length : Int)) := by omega
      go_wp2_with fail
      go_loopw [7] (fun i W => ∃ (k : Nat), i = .int .i64 k ∧ k ≤ b.f3.length ∧ ((a.f3.zip b.f3).take k).all (fun p => fieldM l p.1 p.2) = true ∧ Below w1.heap.size w1 W) (fun i _ => b.f3.length - (intOf i).toNat)
      case atStart => exact ⟨0, rfl, Nat.zero_le _, by simp, Below.refl _ _⟩
      case round =>
        clear z00 z01 z02 z03 z10 z11 z12 z13
        obtain ⟨k, rfl, hkk, hall, hbw⟩ := hrel
        have ALL := Aside0.mk hall
        have W1 := Aside0.mk hbw
        have W0 : Aside0 (Below w.heap.size w wr) := ⟨B1.out.trans (hbw.mono B1.out.size)⟩
        have z03 : wr.cell? ⟨w.heap.size, 3, none⟩ = some (.slice F1 a.f3.length f1) := (blk_cell (blk_below Q.out.1 hbw) 3).trans rfl
        have z13 : wr.cell? ⟨w.heap.size + 1, 3, none⟩ = some (.slice F2 b.f3.length f2) := (blk_cell (blk_below Q.out.2 hbw) 3).trans rfl
        clear hall hbw
        have k0 : (0 : Int) ≤ (k : Int) := Int.natCast_nonneg k
        by_cases hlk : k < b.f3.length
        · obtain ⟨aa, ea, d0, d1, d2, d3⟩ := at_T118 HA.out.f (k : Int) k0 (by have := HLE.out; omega)
          obtain ⟨ab, eb, g0, g1, g2, g3⟩ := at_T118 HB.out.f (k : Int) k0 (by omega)
          subst ea
          subst eb
          have XA : Aside0 (a.f3[k]? = some (rd_T118 a.f3 (k : Int))) := ⟨rd_FT_at a.f3 k (by have := HLE.out; omega)⟩
          have XB : Aside0 (b.f3[k]? = some (rd_T118 b.f3 (k : Int))) := ⟨rd_FT_at b.f3 k hlk⟩
          obtain ⟨x, hx⟩ : ∃ x, x = rd_T118 a.f3 (k : Int) := ⟨_, rfl⟩
          obtain ⟨y, hy⟩ : ∃ y, y = rd_T118 b.f3 (k : Int) := ⟨_, rfl⟩
          rw [← hx] at d0 d1 d2 d3 XA
          rw [← hy] at g0 g1 g2 g3 XB
          clear hx hy
          simp only [Int.toNat_natCast] at d0 d1 d2 d3 g0 g1 g2 g3
          replace d0 := (W0.out.cell (World.block_lt_of_cell? w _ d0)).trans d0
          replace d1 := (W0.out.cell (World.block_lt_of_cell? w _ d1)).trans d1
          replace d2 := (W0.out.cell (World.block_lt_of_cell? w _ d2)).trans d2
          replace d3 := (W0.out.cell (World.block_lt_of_cell? w _ d3)).trans d3
          replace g0 := (W0.out.cell (World.block_lt_of_cell? w _ g0)).trans g0
          replace g1 := (W0.out.cell (World.block_lt_of_cell? w _ g1)).trans g1
          replace g2 := (W0.out.cell (World.block_lt_of_cell? w _ g2)).trans g2
          replace g3 := (W0.out.cell (World.block_lt_of_cell? w _ g3)).trans g3
          have kl : (k : Int) < (b.f3.length : Int) := by omega
          have ka : (k : Int) < (a.f3.length : Int) := by have := HLE.out; omega
          go_wp2_with fail
          refine start_ (n := 13) (S := fun w' => w'.cell? ⟨w.heap.size, 3, none⟩ = some (.slice (some aa) a.f3.length f1) ∧ w'.cell? ⟨w.heap.size + 1, 3, none⟩ = some (.slice (some ab) b.f3.length f2) ∧ w'.cell? (aa.add (k * 4)) = some (.int .i64 x.f0.f0) ∧ w'.cell? ⟨(aa.add (k * 4)).block, (aa.add (k * 4)).off + 1, none⟩ = some (.bool x.f0.f1) ∧ w'.cell? ⟨(aa.add (k * 4)).block, (aa.add (k * 4)).off + 2, none⟩ = some (.int .i64 x.f0.f2) ∧ w'.cell? ⟨(aa.add (k * 4)).block, (aa.add (k * 4)).off + 3, none⟩ = some (.bool x.f1) ∧ w'.cell? (ab.add (k * 4)) = some (.int .i64 y.f0.f0) ∧ w'.cell? ⟨(ab.add (k * 4)).block, (ab.add (k * 4)).off + 1, none⟩ = some (.bool y.f0.f1) ∧ w'.cell? ⟨(ab.add (k * 4)).block, (ab.add (k * 4)).off + 2, none⟩ = some (.int .i64 y.f0.f2) ∧ w'.cell? ⟨(ab.add (k * 4)).block, (ab.add (k * 4)).off + 3, none⟩ = some (.bool y.f1)) (ds := []) #[false, false, false, false, false, false, false, false, false, false, false, false, false] (by kernel_rfl) rfl rfl ⟨z03, z13, d0, d1, d2, d3, g0, g1, g2, g3⟩ (fun hHeld => ?_)
          have BD : Aside0 (Below w1.heap.size w1 wr.drew) := ⟨W1.out.drew⟩
          have BE : Aside0 (Below w.heap.size w wr.drew) := ⟨W0.out.drew⟩
          replace z03 : wr.drew.cell? _ = _ := z03
          replace z13 : wr.drew.cell? _ = _ := z13
          replace d0 : wr.drew.cell? _ = _ := d0
          replace d1 : wr.drew.cell? _ = _ := d1
          replace d2 : wr.drew.cell? _ = _ := d2
          replace d3 : wr.drew.cell? _ = _ := d3
          replace g0 : wr.drew.cell? _ = _ := g0
          replace g1 : wr.drew.cell? _ = _ := g1
          replace g2 : wr.drew.cell? _ = _ := g2
          replace g3 : wr.drew.cell? _ = _ := g3
          generalize wr.drew = w5 at BD BE z03 z13 d0 d1 d2 d3 g0 g1 g2 g3 hHeld ⊢
          refine pure_ (i := 0) (N := some 64) (v := ?_) (a' := ?_) #[true, false, false, false, false, false, false, false, false, false, false, false, false] rfl rfl (by kernel_rfl) (fun _ _ _ h => h) (Or.inl ⟨by rfl, ?_⟩) ?_ ?_
          rotate_left
          · intro w'
            go_simp
            with_reducible rfl
          rotate_left
          · simp only [Act.put, List.setIfInBounds_toArray, List.set_cons_zero, List.set_cons_succ, i64_w, i32_w]
            rfl
          refine pure_ (i := 1) (N := some 65) (v := ?_) (a' := ?_) #[true, true, false, false, false, false, false, false, false, false, false, false, false] rfl rfl (by kernel_rfl) (fun _ _ _ h => h) (Or.inl ⟨by rfl, ?_⟩) ?_ ?_
          rotate_left
          · intro w'
            go_simp
            with_reducible rfl
          rotate_left
          · simp only [Act.put, List.setIfInBounds_toArray, List.set_cons_zero, List.set_cons_succ, i64_w, i32_w]
            rfl
          refine pure_ (i := 3) (N := some 67) (v := ?_) (a' := ?_) #[true, true, false, true, false, false, false, false, false, false, false, false, false] rfl rfl (by kernel_rfl) (fun _ _ _ h => h) (Or.inl ⟨by rfl, ?_⟩) ?_ ?_
          rotate_left
          · intro w'
            go_simp
            with_reducible rfl
          rotate_left
          · simp only [Act.put, List.setIfInBounds_toArray, List.set_cons_zero, List.set_cons_succ, i64_w, i32_w]
            rfl
          refine pure_ (i := 6) (N := some 70) (v := ?_) (a' := ?_) #[true, true, false, true, false, false, true, false, false, false, false, false, false] rfl rfl (by kernel_rfl) (fun _ _ _ h => h) (Or.inl ⟨by rfl, ?_⟩) ?_ ?_
          rotate_left
          · intro w'
            go_simp
            with_reducible rfl
          rotate_left
          · simp only [Act.put, List.setIfInBounds_toArray, List.set_cons_zero, List.set_cons_succ, i64_w, i32_w]
            rfl
          refine pure_ (i := 8) (N := some 72) (v := ?_) (a' := ?_) #[true, true, false, true, false, false, true, false, true, false, false, false, false] rfl rfl (by kernel_rfl) (fun _ _ _ h => h) (Or.inl ⟨by rfl, ?_⟩) ?_ ?_
          rotate_left
          · intro w'
            go_simp
            with_reducible rfl
          rotate_left
          · simp only [Act.put, List.setIfInBounds_toArray, List.set_cons_zero, List.set_cons_succ, i64_w, i32_w]
            rfl
          refine take_ (i := 2) (N := some 66) (v := ?_) (a' := ?_) #[true, true, true, true, false, false, true, false, true, false, false, false, false] rfl rfl (by kernel_rfl) (fun _ _ _ h => h) (Or.inl ⟨by rfl, ?_⟩) hHeld ?_ ?_
          rotate_left
          · rintro w' ⟨s0, s1, s2, s3, s4, s5, s6, s7, s8, s9⟩
            go_simp
            with_reducible rfl
          rotate_left
          · simp only [Act.put, List.setIfInBounds_toArray, List.set_cons_zero, List.set_cons_succ, i64_w, i32_w]
            rfl
          refine pure_ (i := 4) (N := some 68) (v := ?_) (a' := ?_) #[true, true, true, true, true, false, true, false, true, false, false, false, false] rfl rfl (by kernel_rfl) (fun _ _ _ h => h) (Or.inl ⟨by rfl, ?_⟩) ?_ ?_
          rotate_left
          · intro w'
            go_simp
            with_reducible rfl
          rotate_left
          · simp only [Act.put, List.setIfInBounds_toArray, List.set_cons_zero, List.set_cons_succ, i64_w, i32_w]
            rfl
          refine take_ (i := 5) (N := some 69) (v := ?_) (a' := ?_) #[true, true, true, true, true, true, true, false, true, false, false, false, false] rfl rfl (by kernel_rfl) (fun _ _ _ h => h) (Or.inl ⟨by rfl, ?_⟩) hHeld ?_ ?_
          rotate_left
          · rintro w' ⟨s0, s1, s2, s3, s4, s5, s6, s7, s8, s9⟩
            go_simp
            with_reducible rfl
          rotate_left
          · simp only [Act.put, List.setIfInBounds_toArray, List.set_cons_zero, List.set_cons_succ, i64_w, i32_w]
            rfl
          refine take_ (i := 7) (N := some 71) (v := ?_) (a' := ?_) #[true, true, true, true, true, true, true, true, true, false, false, false, false] rfl rfl (by kernel_rfl) (fun _ _ _ h => h) (Or.inl ⟨by rfl, ?_⟩) hHeld ?_ ?_
          rotate_left
          · rintro w' ⟨s0, s1, s2, s3, s4, s5, s6, s7, s8, s9⟩
            go_simp
            with_reducible rfl
          rotate_left
          · simp only [Act.put, List.setIfInBounds_toArray, List.set_cons_zero, List.set_cons_succ, i64_w, i32_w]
            rfl
          refine pure_ (i := 9) (N := some 73) (v := ?_) (a' := ?_) #[true, true, true, true, true, true, true, true, true, true, false, false, false] rfl rfl (by kernel_rfl) (fun _ _ _ h => h) (Or.inl ⟨by rfl, ?_⟩) ?_ ?_
          rotate_left
          · intro w'
            go_simp
            with_reducible rfl
          rotate_left
          · simp only [Act.put, List.setIfInBounds_toArray, List.set_cons_zero, List.set_cons_succ, i64_w, i32_w]
            rfl
          refine take_ (i := 10) (N := some 74) (v := ?_) (a' := ?_) #[true, true, true, true, true, true, true, true, true, true, true, false, false] rfl rfl (by kernel_rfl) (fun _ _ _ h => h) (Or.inl ⟨by rfl, ?_⟩) hHeld ?_ ?_
          rotate_left
          · rintro w' ⟨s0, s1, s2, s3, s4, s5, s6, s7, s8, s9⟩
            go_simp
            with_reducible rfl
          rotate_left
          · simp only [Act.put, List.setIfInBounds_toArray, List.set_cons_zero, List.set_cons_succ, i64_w, i32_w]
            rfl
          refine one_ (i := 11) (N := some 75) #[true, true, true, true, true, true, true, true, true, true, true, true, false] rfl rfl (by kernel_rfl) (by decide) (fun K hK => ?_)
          refine goes_ Tryd.func89 (by kernel_rfl) rfl #[.slice A l.length c, .agg #[.int .i64 x.f0.f0, .bool x.f0.f1, .int .i64 x.f0.f2, .bool x.f1], .agg #[.int .i64 y.f0.f0, .bool y.f0.f1, .int .i64 y.f0.f2, .bool y.f1]] (by rfl) rfl rfl (by simp only [List.map_toArray, List.map_cons, List.map_nil]; rfl) ?_
          refine (r7field_calls A c l x y w5 (HL.out.below BE.out) HC.out).mono ?_
          rintro e w6 ⟨rfl, hb6⟩
          have B6 := Aside0.mk (BD.out.trans (hb6.mono BD.out.size))
          refine ⟨_, rfl, ?_⟩
          refine hK.out _ _ ⟨(hb6.cell (World.block_lt_of_cell? w5 _ z03)).trans z03, (hb6.cell (World.block_lt_of_cell? w5 _ z13)).trans z13, (hb6.cell (World.block_lt_of_cell? w5 _ d0)).trans d0, (hb6.cell (World.block_lt_of_cell? w5 _ d1)).trans d1, (hb6.cell (World.block_lt_of_cell? w5 _ d2)).trans d2, (hb6.cell (World.block_lt_of_cell? w5 _ d3)).trans d3, (hb6.cell (World.block_lt_of_cell? w5 _ g0)).trans g0, (hb6.cell (World.block_lt_of_cell? w5 _ g1)).trans g1, (hb6.cell (World.block_lt_of_cell? w5 _ g2)).trans g2, (hb6.cell (World.block_lt_of_cell? w5 _ g3)).trans g3⟩ (fun hHeld => ?_)
          clear hK K
          refine norm_ (a' := ?_) ?_ ?_
          rotate_left
          · show Act.put _ (some 75) _ = _
            simp only [Act.put, List.setIfInBounds_toArray, List.set_cons_zero, List.set_cons_succ, i64_w, i32_w]
            rfl
          refine pure_ (i := 12) (N := some 76) (v := ?_) (a' := ?_) #[true, true, true, true, true, true, true, true, true, true, true, true, true] rfl rfl (by kernel_rfl) (fun _ _ _ h => h) (Or.inl ⟨by rfl, ?_⟩) ?_ ?_
          rotate_left
          · intro w'
            go_simp
            with_reducible rfl
          rotate_left
          · simp only [Act.put, List.setIfInBounds_toArray, List.set_cons_zero, List.set_cons_succ, i64_w, i32_w]
            rfl
          refine done_ (by kernel_rfl) ?_
          
          clear z03 z13 d0 d1 d2 d3 g0 g1 g2 g3
          cases hv : fieldM l x y with
          | false =>
            have EF : Aside0 (compM l a b = false) := ⟨by rw [EV.out]; exact zip_stop XA.out XB.out hv⟩
            clear hv
            go_wp2_with fail
            go_ret
            exact ⟨by rw [EF.out]; rfl, B1.out.trans (B6.out.mono B1.out.size)⟩
          | true =>
            have ES : Aside0 (((a.f3.zip b.f3).take (k + 1)).all (fun p => fieldM l p.1 p.2) = true) := ⟨by rw [zip_snoc XA.out XB.out, ALL.out, hv]; rfl⟩
            clear hv
            go_wp2_with fail
            go_roundw
            case rel => exact ⟨k + 1, by go_num, by omega, ES.out, B6.out⟩
            case measure => simp [intOf]; omega
        · obtain rfl : k = b.f3.length := by omega
          have EF : Aside0 (compM l a b = true) := ⟨by
            have h := ALL.out
            rw [List.take_of_length_le (by rw [List.length_zip]; omega)] at h
            rw [EV.out]; exact h⟩
          clear hkk hlk
          go_wp2_with fail
          go_ret
          exact ⟨by rw [EF.out]; rfl, W0.out⟩
    · by_cases k3 : a.f0 = 3
      · have kb3 : b.f0 = 3 := by omega
        have EV0 : Aside0 (compM l a b = (decide (a.f3.length = 1) && decide (b.f3.length = 1) && (a.f3.zip b.f3).all fun p => fieldM l p.1 p.2)) := ⟨by simp [compM, hk.symm, k3]⟩
        rw [k3] at z00
        rw [kb3] at z10
        clear e1 hk
        by_cases hla : a.f3.length = 1
        rotate_left
        · have EF : Aside0 (compM l a b = false) := ⟨by rw [EV0.out]; simp [hla]⟩
          have e2 : ((a.f3.length : Int) != 1) = true := by simp; omega
          go_wp2_with fail
          go_ret
          exact ⟨by rw [EF.out]; rfl, B1.out⟩
        have e2 : ((a.f3.length : Int) != 1) = false := by simp; omega
        by_cases hlb : b.f3.length = 1
        rotate_left
        · have EF : Aside0 (compM l a b = false) := ⟨by rw [EV0.out]; simp [hlb]⟩
          have e3 : ((b.f3.length : Int) != 1) = true := by simp; omega
          go_wp2_with fail
          go_ret
          exact ⟨by rw [EF.out]; rfl, B1.out⟩
        have e3 : ((b.f3.length : Int) != 1) = false := by simp; omega
        have EV : Aside0 (compM l a b = (a.f3.zip b.f3).all fun p => fieldM l p.1 p.2) := ⟨by rw [EV0.out]; simp [hla, hlb]⟩
        have HLE : Aside0 (b.f3.length ≤ a.f3.length) := ⟨by omega⟩
        have hlb' := HB.out.lf
        clear hla hlb
        go_wp2_with fail
        clear e2 e3
        go_loopw [7] (fun i W => ∃ (k : Nat), i = .int .i64 k ∧ k ≤ b.f3.length ∧ ((a.f3.zip b.f3).take k).all (fun p => fieldM l p.1 p.2) = true ∧ Below w1.heap.size w1 W) (fun i _ => b.f3.length - (intOf i).toNat)
        case atStart => exact ⟨0, rfl, Nat.zero_le _, by simp, Below.refl _ _⟩
        case round =>
          clear z00 z01 z02 z03 z10 z11 z12 z13
          obtain ⟨k, rfl, hkk, hall, hbw⟩ := hrel
          have ALL := Aside0.mk hall
          have W1 := Aside0.mk hbw
          have W0 : Aside0 (Below w.heap.size w wr) := ⟨B1.out.trans (hbw.mono B1.out.size)⟩
          have z03 : wr.cell? ⟨w.heap.size, 3, none⟩ = some (.slice F1 a.f3.length f1) := (blk_cell (blk_below Q.out.1 hbw) 3).trans rfl
          have z13 : wr.cell? ⟨w.heap.size + 1, 3, none⟩ = some (.slice F2 b.f3.length f2) := (blk_cell (blk_below Q.out.2 hbw) 3).trans rfl
          clear hall hbw
          have k0 : (0 : Int) ≤ (k : Int) := Int.natCast_nonneg k
          by_cases hlk : k < b.f3.length
          · obtain ⟨aa, ea, d0, d1, d2, d3⟩ := at_T118 HA.out.f (k : Int) k0 (by have := HLE.out; omega)
            obtain ⟨ab, eb, g0, g1, g2, g3⟩ := at_T118 HB.out.f (k : Int) k0 (by omega)
            subst ea
            subst eb
            have XA : Aside0 (a.f3[k]? = some (rd_T118 a.f3 (k : Int))) := ⟨rd_FT_at a.f3 k (by have := HLE.out; omega)⟩
            have XB : Aside0 (b.f3[k]? = some (rd_T118 b.f3 (k : Int))) := ⟨rd_FT_at b.f3 k hlk⟩
            obtain ⟨x, hx⟩ : ∃ x, x = rd_T118 a.f3 (k : Int) := ⟨_, rfl⟩
            obtain ⟨y, hy⟩ : ∃ y, y = rd_T118 b.f3 (k : Int) := ⟨_, rfl⟩
            rw [← hx] at d0 d1 d2 d3 XA
            rw [← hy] at g0 g1 g2 g3 XB
            clear hx hy
            simp only [Int.toNat_natCast] at d0 d1 d2 d3 g0 g1 g2 g3
            replace d0 := (W0.out.cell (World.block_lt_of_cell? w _ d0)).trans d0
            replace d1 := (W0.out.cell (World.block_lt_of_cell? w _ d1)).trans d1
            replace d2 := (W0.out.cell (World.block_lt_of_cell? w _ d2)).trans d2
            replace d3 := (W0.out.cell (World.block_lt_of_cell? w _ d3)).trans d3
            replace g0 := (W0.out.cell (World.block_lt_of_cell? w _ g0)).trans g0
            replace g1 := (W0.out.cell (World.block_lt_of_cell? w _ g1)).trans g1
            replace g2 := (W0.out.cell (World.block_lt_of_cell? w _ g2)).trans g2
            replace g3 := (W0.out.cell (World.block_lt_of_cell? w _ g3)).trans g3
            have kl : (k : Int) < (b.f3.length : Int) := by omega
            have ka : (k : Int) < (a.f3.length : Int) := by have := HLE.out; omega
            go_wp2_with fail
            refine start_ (n := 13) (S := fun w' => w'.cell? ⟨w.heap.size, 3, none⟩ = some (.slice (some aa) a.f3.length f1) ∧ w'.cell? ⟨w.heap.size + 1, 3, none⟩ = some (.slice (some ab) b.f3.length f2) ∧ w'.cell? (aa.add (k * 4)) = some (.int .i64 x.f0.f0) ∧ w'.cell? ⟨(aa.add (k * 4)).block, (aa.add (k * 4)).off + 1, none⟩ = some (.bool x.f0.f1) ∧ w'.cell? ⟨(aa.add (k * 4)).block, (aa.add (k * 4)).off + 2, none⟩ = some (.int .i64 x.f0.f2) ∧ w'.cell? ⟨(aa.add (k * 4)).block, (aa.add (k * 4)).off + 3, none⟩ = some (.bool x.f1) ∧ w'.cell? (ab.add (k * 4)) = some (.int .i64 y.f0.f0) ∧ w'.cell? ⟨(ab.add (k * 4)).block, (ab.add (k * 4)).off + 1, none⟩ = some (.bool y.f0.f1) ∧ w'.cell? ⟨(ab.add (k * 4)).block, (ab.add (k * 4)).off + 2, none⟩ = some (.int .i64 y.f0.f2) ∧ w'.cell? ⟨(ab.add (k * 4)).block, (ab.add (k * 4)).off + 3, none⟩ = some (.bool y.f1)) (ds := []) #[false, false, false, false, false, false, false, false, false, false, false, false, false] (by kernel_rfl) rfl rfl ⟨z03, z13, d0, d1, d2, d3, g0, g1, g2, g3⟩ (fun hHeld => ?_)
            have BD : Aside0 (Below w1.heap.size w1 wr.drew) := ⟨W1.out.drew⟩
            have BE : Aside0 (Below w.heap.size w wr.drew) := ⟨W0.out.drew⟩
            replace z03 : wr.drew.cell? _ = _ := z03
            replace z13 : wr.drew.cell? _ = _ := z13
            replace d0 : wr.drew.cell? _ = _ := d0
            replace d1 : wr.drew.cell? _ = _ := d1
            replace d2 : wr.drew.cell? _ = _ := d2
            replace d3 : wr.drew.cell? _ = _ := d3
            replace g0 : wr.drew.cell? _ = _ := g0
            replace g1 : wr.drew.cell? _ = _ := g1
            replace g2 : wr.drew.cell? _ = _ := g2
            replace g3 : wr.drew.cell? _ = _ := g3
            generalize wr.drew = w5 at BD BE z03 z13 d0 d1 d2 d3 g0 g1 g2 g3 hHeld ⊢
            refine pure_ (i := 0) (N := some 64) (v := ?_) (a' := ?_) #[true, false, false, false, false, false, false, false, false, false, false, false, false] rfl rfl (by kernel_rfl) (fun _ _ _ h => h) (Or.inl ⟨by rfl, ?_⟩) ?_ ?_
            rotate_left
            · intro w'
              go_simp
              with_reducible rfl
            rotate_left
            · simp only [Act.put, List.setIfInBounds_toArray, List.set_cons_zero, List.set_cons_succ, i64_w, i32_w]
              rfl
            refine pure_ (i := 1) (N := some 65) (v := ?_) (a' := ?_) #[true, true, false, false, false, false, false, false, false, false, false, false, false] rfl rfl (by kernel_rfl) (fun _ _ _ h => h) (Or.inl ⟨by rfl, ?_⟩) ?_ ?_
            rotate_left
            · intro w'
              go_simp
              with_reducible rfl
            rotate_left
            · simp only [Act.put, List.setIfInBounds_toArray, List.set_cons_zero, List.set_cons_succ, i64_w, i32_w]
              rfl
            refine pure_ (i := 3) (N := some 67) (v := ?_) (a' := ?_) #[true, true, false, true, false, false, false, false, false, false, false, false, false] rfl rfl (by kernel_rfl) (fun _ _ _ h => h) (Or.inl ⟨by rfl, ?_⟩) ?_ ?_
            rotate_left
            · intro w'
              go_simp
              with_reducible rfl
            rotate_left
            · simp only [Act.put, List.setIfInBounds_toArray, List.set_cons_zero, List.set_cons_succ, i64_w, i32_w]
              rfl
            refine pure_ (i := 6) (N := some 70) (v := ?_) (a' := ?_) #[true, true, false, true, false, false, true, false, false, false, false, false, false] rfl rfl (by kernel_rfl) (fun _ _ _ h => h) (Or.inl ⟨by rfl, ?_⟩) ?_ ?_
            rotate_left
            · intro w'
              go_simp
              with_reducible rfl
            rotate_left
            · simp only [Act.put, List.setIfInBounds_toArray, List.set_cons_zero, List.set_cons_succ, i64_w, i32_w]
              rfl
            refine pure_ (i := 8) (N := some 72) (v := ?_) (a' := ?_) #[true, true, false, true, false, false, true, false, true, false, false, false, false] rfl rfl (by kernel_rfl) (fun _ _ _ h => h) (Or.inl ⟨by rfl, ?_⟩) ?_ ?_
            rotate_left
            · intro w'
              go_simp
              with_reducible rfl
            rotate_left
            · simp only [Act.put, List.setIfInBounds_toArray, List.set_cons_zero, List.set_cons_succ, i64_w, i32_w]
              rfl
            refine take_ (i := 2) (N := some 66) (v := ?_) (a' := ?_) #[true, true, true, true, false, false, true, false, true, false, false, false, false] rfl rfl (by kernel_rfl) (fun _ _ _ h => h) (Or.inl ⟨by rfl, ?_⟩) hHeld ?_ ?_
            rotate_left
            · rintro w' ⟨s0, s1, s2, s3, s4, s5, s6, s7, s8, s9⟩
              go_simp
              with_reducible rfl
            rotate_left
            · simp only [Act.put, List.setIfInBounds_toArray, List.set_cons_zero, List.set_cons_succ, i64_w, i32_w]
              rfl
            refine pure_ (i := 4) (N := some 68) (v := ?_) (a' := ?_) #[true, true, true, true, true, false, true, false, true, false, false, false, false] rfl rfl (by kernel_rfl) (fun _ _ _ h => h) (Or.inl ⟨by rfl, ?_⟩) ?_ ?_
            rotate_left
            · intro w'
              go_simp
              with_reducible rfl
            rotate_left
            · simp only [Act.put, List.setIfInBounds_toArray, List.set_cons_zero, List.set_cons_succ, i64_w, i32_w]
              rfl
            refine take_ (i := 5) (N := some 69) (v := ?_) (a' := ?_) #[true, true, true, true, true, true, true, false, true, false, false, false, false] rfl rfl (by kernel_rfl) (fun _ _ _ h => h) (Or.inl ⟨by rfl, ?_⟩) hHeld ?_ ?_
            rotate_left
            · rintro w' ⟨s0, s1, s2, s3, s4, s5, s6, s7, s8, s9⟩
              go_simp
              with_reducible rfl
            rotate_left
            · simp only [Act.put, List.setIfInBounds_toArray, List.set_cons_zero, List.set_cons_succ, i64_w, i32_w]
              rfl
            refine take_ (i := 7) (N := some 71) (v := ?_) (a' := ?_) #[true, true, true, true, true, true, true, true, true, false, false, false, false] rfl rfl (by kernel_rfl) (fun _ _ _ h => h) (Or.inl ⟨by rfl, ?_⟩) hHeld ?_ ?_
            rotate_left
            · rintro w' ⟨s0, s1, s2, s3, s4, s5, s6, s7, s8, s9⟩
              go_simp
              with_reducible rfl
            rotate_left
            · simp only [Act.put, List.setIfInBounds_toArray, List.set_cons_zero, List.set_cons_succ, i64_w, i32_w]
              rfl
            refine pure_ (i := 9) (N := some 73) (v := ?_) (a' := ?_) #[true, true, true, true, true, true, true, true, true, true, false, false, false] rfl rfl (by kernel_rfl) (fun _ _ _ h => h) (Or.inl ⟨by rfl, ?_⟩) ?_ ?_
            rotate_left
            · intro w'
              go_simp
              with_reducible rfl
            rotate_left
            · simp only [Act.put, List.setIfInBounds_toArray, List.set_cons_zero, List.set_cons_succ, i64_w, i32_w]
              rfl
            refine take_ (i := 10) (N := some 74) (v := ?_) (a' := ?_) #[true, true, true, true, true, true, true, true, true, true, true, false, false] rfl rfl (by kernel_rfl) (fun _ _ _ h => h) (Or.inl ⟨by rfl, ?_⟩) hHeld ?_ ?_
            rotate_left
            · rintro w' ⟨s0, s1, s2, s3, s4, s5, s6, s7, s8, s9⟩
              go_simp
              with_reducible rfl
            rotate_left
            · simp only [Act.put, List.setIfInBounds_toArray, List.set_cons_zero, List.set_cons_succ, i64_w, i32_w]
              rfl
            refine one_ (i := 11) (N := some 75) #[true, true, true, true, true, true, true, true, true, true, true, true, false] rfl rfl (by kernel_rfl) (by decide) (fun K hK => ?_)
            refine goes_ Tryd.func89 (by kernel_rfl) rfl #[.slice A l.length c, .agg #[.int .i64 x.f0.f0, .bool x.f0.f1, .int .i64 x.f0.f2, .bool x.f1], .agg #[.int .i64 y.f0.f0, .bool y.f0.f1, .int .i64 y.f0.f2, .bool y.f1]] (by rfl) rfl rfl (by simp only [List.map_toArray, List.map_cons, List.map_nil]; rfl) ?_
            refine (r7field_calls A c l x y w5 (HL.out.below BE.out) HC.out).mono ?_
            rintro e w6 ⟨rfl, hb6⟩
            have B6 := Aside0.mk (BD.out.trans (hb6.mono BD.out.size))
            refine ⟨_, rfl, ?_⟩
            refine hK.out _ _ ⟨(hb6.cell (World.block_lt_of_cell? w5 _ z03)).trans z03, (hb6.cell (World.block_lt_of_cell? w5 _ z13)).trans z13, (hb6.cell (World.block_lt_of_cell? w5 _ d0)).trans d0, (hb6.cell (World.block_lt_of_cell? w5 _ d1)).trans d1, (hb6.cell (World.block_lt_of_cell? w5 _ d2)).trans d2, (hb6.cell (World.block_lt_of_cell? w5 _ d3)).trans d3, (hb6.cell (World.block_lt_of_cell? w5 _ g0)).trans g0, (hb6.cell (World.block_lt_of_cell? w5 _ g1)).trans g1, (hb6.cell (World.block_lt_of_cell? w5 _ g2)).trans g2, (hb6.cell (World.block_lt_of_cell? w5 _ g3)).trans g3⟩ (fun hHeld => ?_)
            clear hK K
            refine norm_ (a' := ?_) ?_ ?_
            rotate_left
            · show Act.put _ (some 75) _ = _
              simp only [Act.put, List.setIfInBounds_toArray, List.set_cons_zero, List.set_cons_succ, i64_w, i32_w]
              rfl
            refine pure_ (i := 12) (N := some 76) (v := ?_) (a' := ?_) #[true, true, true, true, true, true, true, true, true, true, true, true, true] rfl rfl (by kernel_rfl) (fun _ _ _ h => h) (Or.inl ⟨by rfl, ?_⟩) ?_ ?_
            rotate_left
            · intro w'
              go_simp
              with_reducible rfl
            rotate_left
            · simp only [Act.put, List.setIfInBounds_toArray, List.set_cons_zero, List.set_cons_succ, i64_w, i32_w]
              rfl
            refine done_ (by kernel_rfl) ?_
            
            clear z03 z13 d0 d1 d2 d3 g0 g1 g2 g3
            cases hv : fieldM l x y with
            | false =>
              have EF : Aside0 (compM l a b = false) := ⟨by rw [EV.out]; exact zip_stop XA.out XB.out hv⟩
              clear hv
              go_wp2_with fail
              go_ret
              exact ⟨by rw [EF.out]; rfl, B1.out.trans (B6.out.mono B1.out.size)⟩
            | true =>
              have ES : Aside0 (((a.f3.zip b.f3).take (k + 1)).all (fun p => fieldM l p.1 p.2) = true) := ⟨by rw [zip_snoc XA.out XB.out, ALL.out, hv]; rfl⟩
              clear hv
              go_wp2_with fail
              go_roundw
              case rel => exact ⟨k + 1, by go_num, by omega, ES.out, B6.out⟩
              case measure => simp [intOf]; omega
          · obtain rfl : k = b.f3.length := by omega
            have EF : Aside0 (compM l a b = true) := ⟨by
              have h := ALL.out
              rw [List.take_of_length_le (by rw [List.length_zip]; omega)] at h
              rw [EV.out]; exact h⟩
            clear hkk hlk
            go_wp2_with fail
            go_ret
            exact ⟨by rw [EF.out]; rfl, W0.out⟩
      · have EF : Aside0 (compM l a b = false) := ⟨by simp [compM, hk.symm, k1, k2, k3]⟩
        have n1 : (a.f0 == 1) = false := by simp [k1]
        have n2 : (a.f0 == 2) = false := by simp [k2]
        have n3 : (a.f0 == 3) = false := by simp [k3]
        go_wp2_with fail
        go_ret
        exact ⟨by rw [EF.out]; rfl, B1.out⟩
/-- Below n, types declare types ahead of them. -/
def Down (l : List S62) (n : Int) : Prop := ∀ x : Int, 0 ≤ x → x < n → ∀ y ∈ (tyAt l x).f1, y < x
def depthM (l : List S62) (n : Int) : Int := ((chain l ((flat l).length + 1) n).length : Int) - 1
noncomputable def declM (l : List S62) (n : Int) : Int :=
  if ∃ h ∈ (tyAt l n).f1, n ≤ h then 50
  else if 1 < (tyAt l n).f1.length then 1
  else match (tyAt l n).f1 with
    | [] => 0
    | o :: _ => if (tyAt l o).f0 = true then 70 else if 63 ≤ depthM l o then 72 else if compM l (tyAt l n).f2 (tyAt l o).f2 = true then 0 else 71
set_option maxRecDepth 100000 in
set_option maxHeartbeats 4000000 in
theorem r7depth_calls (A : Option Addr) (c : Nat) (l : List S62) (n : Int) (w : World) (hl : LA w A c l) (hc : Clo l) (n0 : 0 ≤ n) (n1 : n < ((flat l).length : Int)) (hd : Down l (n + 1)) :
    Calls Tryd.prog 69 #[.slice A l.length c, .int .i64 n] w fun e w' => e = .returned (.int .i64 (depthM l n)) ∧ Below w.heap.size w w' := by
  have HL := Aside0.mk hl
  have HC := Aside0.mk hc
  have HD := Aside0.mk hd
  have hll := hl.flat_le
  obtain ⟨m, hm⟩ : ∃ m, m = (flat l).length := ⟨_, rfl⟩
  have HM := Aside0.mk hm
  have K := r7above_calls A c l n w hl n0 n1
  rw [← hm] at n1 hll
  obtain ⟨u0, b0, hab⟩ : ∃ u b, aboveV (tyAt l n).f1 = .tuple #[.int .i64 u, .bool b] := by rcases (tyAt l n).f1 with _ | ⟨y, t⟩ <;> exact ⟨_, _, rfl⟩
  have HAB := Aside0.mk hab
  rw [hab] at K
  clear hl hc hd hm hab
  go_enter Tryd.func69, Tryd.ntmps69
  go_wp2_with fail
  refine K.mono ?_
  rintro e w1 ⟨rfl, hb⟩
  have B1 := Aside0.mk hb
  clear hb K
  go_wp2_with fail
  go_loopw [5, 6, 7] (fun d up ok W => ∃ (j : Nat) (x u : Int) (b : Bool) (p : List Int), d = .int .i64 j ∧ up = .int .i64 u ∧ ok = .bool b ∧ aboveV (tyAt l x).f1 = .tuple #[.int .i64 u, .bool b] ∧ (0 ≤ x ∧ x + j ≤ n) ∧ (p.length = j ∧ p ++ chain l (m + 1 - j) x = chain l (m + 1) n) ∧ Below w.heap.size w W) (fun d _ _ _ => n.toNat + 1 - (intOf d).toNat)
  case atStart => exact ⟨0, n, u0, b0, [], rfl, rfl, rfl, HAB.out, ⟨n0, by simp⟩, ⟨rfl, rfl⟩, B1.out⟩
  case round =>
    clear HAB
    obtain ⟨j, x, u, b, p, rfl, rfl, rfl, hab, ⟨x0, xj⟩, ⟨hpl, hch⟩, hbw⟩ := hrel
    have W0 := Aside0.mk hbw
    have HPL := Aside0.mk hpl
    have HCH := Aside0.mk hch
    have hjm : m + 1 - j = (m - j) + 1 := by omega
    rw [hjm] at hch
    have j0 : (0 : Int) ≤ (j : Int) := Int.natCast_nonneg j
    have hwj : wrap64 ((j : Int) + 1) = (j : Int) + 1 := by unfold wrap64; omega
    rcases hz : (tyAt l x).f1 with _ | ⟨y, t⟩
    · rw [hz] at hab
      rw [chain_end _ hz] at hch
      simp only [aboveV, Value.tuple.injEq] at hab
      have hb0 : b = false := by simp at hab; exact hab.2
      subst hb0
      have ED : Aside0 (depthM l n = (j : Int)) := ⟨by unfold depthM; rw [← HM.out, ← hch, List.length_append, HPL.out]; simp⟩
      clear hab hch hbw hpl hz
      go_wp2_with fail
      go_ret
      exact ⟨by rw [ED.out]; rfl, W0.out⟩
    · rw [hz] at hab
      rw [chain_on _ hz] at hch
      have hy1 := tyAt_supers HC.out x0 (by rw [← HM.out]; omega) y (by rw [hz]; simp)
      have hy2 := HD.out x x0 (by omega) y (by rw [hz]; simp)
      simp only [aboveV, Value.tuple.injEq] at hab
      have hb0 : b = true := by simp at hab; exact hab.2
      have hu0 : u = y := by simp at hab; exact hab.1.symm
      subst hb0
      subst hu0
      have KA := r7above_calls A c l u wr (HL.out.below hbw) hy1.1 hy1.2
      obtain ⟨u1, b1, hab1⟩ : ∃ u1 b1, aboveV (tyAt l u).f1 = .tuple #[.int .i64 u1, .bool b1] := by rcases (tyAt l u).f1 with _ | ⟨y, t⟩ <;> exact ⟨_, _, rfl⟩
      have HAB := Aside0.mk hab1
      have HCE := Aside0.mk hch
      rw [hab1] at KA
      clear hab hch hbw hpl hz hab1
      go_wp2_with fail
      refine KA.mono ?_
      rintro e w2 ⟨rfl, hb⟩
      have W2 := Aside0.mk (W0.out.trans (hb.mono W0.out.size))
      clear hb KA
      go_wp2_with fail
      go_roundw
      case rel => exact ⟨j + 1, u, u1, b1, p ++ [x], by go_num, rfl, rfl, HAB.out, ⟨hy1.1, by push_cast; omega⟩, ⟨by rw [List.length_append, HPL.out]; rfl, by have e_ : m + 1 - (j + 1) = m - j := (by omega); rw [e_, List.append_assoc]; exact HCE.out⟩, W2.out⟩
      case measure => simp [intOf]; omega
theorem depthM_bounds {l : List S62} {n : Int} : 0 ≤ depthM l n ∧ depthM l n ≤ (flat l).length := by
  have h : ∀ (k : Nat) (x : Int), (chain l k x).length ≤ k := by
    intro k
    induction k with
    | zero => intro x; simp [chain]
    | succ k ih =>
      intro x
      rcases hz : (tyAt l x).f1 with _ | ⟨y, t⟩
      · rw [chain_end _ hz]; simp
      · rw [chain_on _ hz]; have := ih y; simp; omega
  have h1 := h ((flat l).length + 1) n
  have h2 : 1 ≤ (chain l ((flat l).length + 1) n).length := by
    rcases hz : (tyAt l n).f1 with _ | ⟨y, t⟩
    · rw [chain_end _ hz]; simp
    · rw [chain_on _ hz]; simp
  unfold depthM
  omega
/-- The bounds of a composite type that came in. -/
theorem cin2_of {w : World} {l : List S62} {A : Option Addr} {c : Nat} (hl : LA w A c l) {n : Int} (n0 : 0 ≤ n) (n1 : n < ((flat l).length : Int)) {A1 : Option Addr} {c1 : Nat} {A3 : Option Addr} {c3 : Nat} {A4 : Option Addr} {c4 : Nat} {A5 : Option Addr} {c5 : Nat} (h : TyIn w (tyAt l n) A1 c1 A3 c3 A4 c4 A5 c5) : CIn2 w (tyAt l n).f2 A3 A4 A5 ∧ (tyAt l n).f1.length ≤ 1048576 := by
  obtain ⟨_, ⟨_, h3⟩, ⟨_, h4⟩, _, h5⟩ := h.open
  obtain ⟨j, r, p, hj, hr, he, hp⟩ := place_of l l.length n.toNat (Nat.le_refl _) (by rw [List.take_length, ← flat_length]; omega)
  have h6 : (flat l)[n.toNat]? = r.f0[p]? := by rw [he]; exact flat_get hr hp
  have h7 : tyAt l n = r.f0[p] := by
    unfold tyAt rd_T53
    rw [List.getD_eq_getElem?_getD, h6, List.getElem?_eq_getElem hp]
    rfl
  have hw := hl.w
  have hr' := List.mem_of_getElem? hr
  have hs : wS (tyAt l n) ≤ 1048576 := by
    rw [h7]
    have a1 := wS_le_wG (List.getElem_mem hp)
    have a2 := wG_le_wL hr'
    omega
  unfold wS at hs
  exact ⟨⟨h3, h4, h5, by omega, by omega, by omega⟩, by omega⟩
set_option maxRecDepth 100000 in
set_option maxHeartbeats 8000000 in
theorem r7declared_calls (A : Option Addr) (c : Nat) (l : List S62) (n : Int) (w : World) (hl : LA w A c l) (hc : Clo l) (n0 : 0 ≤ n) (n1 : n < ((flat l).length : Int)) (hd : Down l n) :
    Calls Tryd.prog 52 #[.slice A l.length c, .int .i64 n] w fun e w' => e = .returned (.int .i64 (declM l n)) ∧ Below w.heap.size w w' := by
  have HL := Aside0.mk hl
  have HC := Aside0.mk hc
  have HD := Aside0.mk hd
  have N01 := Aside0.mk (And.intro n0 n1)
  have K := r5At_calls A c l n w hl n0 n1
  clear hl hc hd
  go_enter Tryd.func52, Tryd.ntmps52
  go_wp2_with fail
  refine K.mono ?_
  rintro e w1 ⟨A1, c1, A3, c3, A4, c4, A5, c5, i0, p0, rfl, hty, hb⟩
  obtain ⟨hcin, hslen⟩ := cin2_of HL.out n0 n1 hty
  obtain ⟨⟨m1, r1⟩, _⟩ := hty.open
  obtain ⟨s, hs⟩ : ∃ s, s = tyAt l n := ⟨_, rfl⟩
  rw [← hs] at r1 m1 hcin hslen
  have HS := Aside0.mk hs
  have R1 := Aside0.mk r1
  have CI := Aside0.mk hcin
  obtain ⟨W2, hW2⟩ : ∃ W2, W2 = (w1.alloc (.cells #[.bool s.f0, .slice A1 s.f1.length c1, .int .i64 s.f2.f0, .slice A3 s.f2.f1.length c3, .slice A4 s.f2.f2.length c4, .slice A5 s.f2.f3.length c5] 53)) := ⟨_, rfl⟩
  have B2 : Aside0 (Below w.heap.size w W2) := ⟨by rw [hW2]; exact hb.alloc hb.size _⟩
  have Q2 : Aside0 (W2.heap[w1.heap.size]? = some (.cells #[.bool s.f0, .slice A1 s.f1.length c1, .int .i64 s.f2.f0, .slice A3 s.f2.f1.length c3, .slice A4 s.f2.f2.length c4, .slice A5 s.f2.f3.length c5] 53 (0, 0))) := ⟨by rw [hW2]; exact blk_new w1 _⟩
  rw [← hs]
  clear hty K hb r1 m1 hcin n0 n1 hs
  go_wp2_with fail
  rw [← hW2]
  clear hW2
  go_loopw [9] (fun i W => ∃ (k : Nat), i = .int .i64 k ∧ k ≤ s.f1.length ∧ (∀ y ∈ s.f1.take k, y < n) ∧ W = W2) (fun i _ => s.f1.length - (intOf i).toNat)
  case atStart => exact ⟨0, rfl, Nat.zero_le _, (fun y hy => by simp at hy), rfl⟩
  case round =>
    obtain ⟨k, rfl, hk, hall, rfl⟩ := hrel
    have ALL := Aside0.mk hall
    clear hall
    have k0 : (0 : Int) ≤ (k : Int) := Int.natCast_nonneg k
    have z1 : wr.cell? ⟨w1.heap.size, 1, none⟩ = some (.slice A1 s.f1.length c1) := (blk_cell Q2.out 1).trans rfl
    by_cases hlk : k < s.f1.length
    · obtain ⟨ai, y, eA, hy, hcy⟩ := at_int' R1.out k hlk
      subst eA
      replace hcy := (B2.out.cell (World.block_lt_of_cell? w _ hcy)).trans hcy
      have YM := Aside0.mk hy
      have kl : (k : Int) < (s.f1.length : Int) := by omega
      clear hy
      by_cases hyn : n ≤ y
      · have ED : Aside0 (declM l n = 50) := ⟨by unfold declM; rw [← HS.out, if_pos ⟨y, List.mem_of_getElem? YM.out, hyn⟩]⟩
        go_wp2_with fail
        go_ret
        exact ⟨by rw [ED.out]; rfl, B2.out⟩
      · go_wp2_with fail
        go_roundw
        case rel => exact ⟨k + 1, by go_num, by omega, (fun z hz => by rw [List.take_add_one, YM.out] at hz; rcases List.mem_append.1 hz with h | h; (· exact ALL.out z h); (· simp at h; omega)), trivial⟩
        case measure => simp [intOf]; omega
    · obtain rfl : k = s.f1.length := by omega
      have NOT : Aside0 (¬ ∃ h ∈ s.f1, n ≤ h) := ⟨by
        rintro ⟨h, hh, hn⟩
        have := ALL.out h (by rw [List.take_length]; exact hh)
        omega⟩
      have ED0 := Aside0.mk (show declM l n = _ from by unfold declM; rw [← HS.out, if_neg NOT.out])
      clear hk hlk
      by_cases hl1 : 1 < s.f1.length
      · have ED : Aside0 (declM l n = 1) := ⟨by rw [ED0.out, if_pos hl1]⟩
        have hl1' : (1 : Int) < (s.f1.length : Int) := by omega
        go_wp2_with fail
        go_ret
        exact ⟨by rw [ED.out]; rfl, B2.out⟩
      · have ED1 := Aside0.mk (ED0.out.trans (if_neg hl1))
        have hl1' : ¬ (1 : Int) < (s.f1.length : Int) := by omega
        rcases hz : s.f1 with _ | ⟨o, t⟩
        · have ED : Aside0 (declM l n = 0) := ⟨by rw [ED1.out, hz]⟩
          rw [hz] at z1
          go_wp2_with fail
          go_ret
          exact ⟨by rw [ED.out]; rfl, B2.out⟩
        · have ht : t = [] := by rw [hz] at hl1; cases t with | nil => rfl | cons u t => exact absurd (by simp) hl1
          subst ht
          have oin := tyAt_supers HC.out N01.out.1 N01.out.2 o (by rw [← HS.out, hz]; simp)
          have on : o < n := ALL.out o (by rw [List.take_length, hz]; simp)
          have DO : Aside0 (Down l (o + 1)) := ⟨fun x hx0 hx1 => HD.out x hx0 (by omega)⟩
          have OI := Aside0.mk oin
          have EDO := ED1.out
          rw [hz] at EDO
          dsimp only at EDO
          have ED2 := Aside0.mk EDO
          obtain ⟨ai, y, eA, hy, hcy⟩ := at_int' R1.out 0 (by rw [hz]; simp)
          obtain rfl : o = y := by rw [hz] at hy; simpa using hy
          have e_ : ai.add 0 = ai := (by simp [Addr.add])
          rw [e_] at hcy
          subst eA
          replace hcy := (B2.out.cell (World.block_lt_of_cell? w _ hcy)).trans hcy
          rw [hz] at z1
          have HZ := Aside0.mk hz
          clear hy e_ EDO ED1 ED0 hl1 hl1' hz on oin
          have KO := r5At_calls A c l o wr (HL.out.below B2.out) OI.out.1 OI.out.2
          go_wp2_with fail
          refine KO.mono ?_
          rintro e w3 ⟨E1, d1, E3, d3, E4, d4, E5, d5, i2, p2, rfl, hto, hb3⟩
          obtain ⟨hco, _⟩ := cin2_of (HL.out.below B2.out) OI.out.1 OI.out.2 hto
          obtain ⟨so, hso⟩ : ∃ so, so = tyAt l o := ⟨_, rfl⟩
          rw [← hso] at hco ⊢
          have HSO := Aside0.mk hso
          have CO := Aside0.mk hco
          have B3 := Aside0.mk (B2.out.trans (hb3.mono B2.out.size))
          have Q3 := Aside0.mk (blk_below Q2.out hb3)
          have hz3 : w1.heap.size < w3.heap.size := blk_lt Q3.out
          replace z1 := (hb3.cell (World.block_lt_of_cell? wr _ z1)).trans z1
          replace hcy := (hb3.cell (World.block_lt_of_cell? wr _ hcy)).trans hcy
          have hai : ai.block < w3.heap.size := World.block_lt_of_cell? w3 _ hcy
          have HB3 := Aside0.mk hb3
          clear hb3 hto hco hso KO
          cases hf : so.f0 with
          | true =>
            have ED : Aside0 (declM l n = 70) := ⟨by rw [ED2.out, ← HSO.out, if_pos hf]⟩
            have B4 : Aside0 (Below w.heap.size w (w3.alloc (.cells #[.bool so.f0, .slice E1 so.f1.length d1, .int .i64 so.f2.f0, .slice E3 so.f2.f1.length d3, .slice E4 so.f2.f2.length d4, .slice E5 so.f2.f3.length d5] 53))) := ⟨B3.out.alloc B3.out.size _⟩
            rw [hf] at B4
            clear hf
            go_wp2_with fail
            go_ret
            exact ⟨by rw [ED.out]; rfl, B4.out⟩
          | false =>
            have ED3 : Aside0 (declM l n = _) := ⟨by rw [ED2.out, ← HSO.out, if_neg (by rw [hf]; simp)]⟩
            have B4 : Aside0 (Below w.heap.size w (w3.alloc (.cells #[.bool so.f0, .slice E1 so.f1.length d1, .int .i64 so.f2.f0, .slice E3 so.f2.f1.length d3, .slice E4 so.f2.f2.length d4, .slice E5 so.f2.f3.length d5] 53))) := ⟨B3.out.alloc B3.out.size _⟩
            have Q4 : Aside0 ((w3.alloc (.cells #[.bool so.f0, .slice E1 so.f1.length d1, .int .i64 so.f2.f0, .slice E3 so.f2.f1.length d3, .slice E4 so.f2.f2.length d4, .slice E5 so.f2.f3.length d5] 53)).heap[w1.heap.size]? = some (.cells #[.bool s.f0, .slice (some ai) s.f1.length c1, .int .i64 s.f2.f0, .slice A3 s.f2.f1.length c3, .slice A4 s.f2.f2.length c4, .slice A5 s.f2.f3.length c5] 53 (0, 0)) ∧ (w3.alloc (.cells #[.bool so.f0, .slice E1 so.f1.length d1, .int .i64 so.f2.f0, .slice E3 so.f2.f1.length d3, .slice E4 so.f2.f2.length d4, .slice E5 so.f2.f3.length d5] 53)).heap[w3.heap.size]? = some (.cells #[.bool so.f0, .slice E1 so.f1.length d1, .int .i64 so.f2.f0, .slice E3 so.f2.f1.length d3, .slice E4 so.f2.f2.length d4, .slice E5 so.f2.f3.length d5] 53 (0, 0))) := ⟨blk_alloc Q3.out _, blk_new w3 _⟩
            have HB4 : Aside0 (Below wr.heap.size wr (w3.alloc (.cells #[.bool so.f0, .slice E1 so.f1.length d1, .int .i64 so.f2.f0, .slice E3 so.f2.f1.length d3, .slice E4 so.f2.f2.length d4, .slice E5 so.f2.f3.length d5] 53))) := ⟨HB3.out.alloc HB3.out.size _⟩
            rw [hf] at B4 Q4 HB4
            have KD := r7depth_calls A c l o _ (HL.out.below B4.out) HC.out OI.out.1 OI.out.2 DO.out
            clear hf
            go_wp2_with fail
            refine KD.mono ?_
            rintro e w5 ⟨rfl, hb5⟩
            have B5 := Aside0.mk (B4.out.trans (hb5.mono B4.out.size))
            have Q5 := Aside0.mk (And.intro (blk_below Q4.out.1 hb5) (blk_below Q4.out.2 hb5))
            have HB5 := Aside0.mk (HB4.out.trans (hb5.mono HB4.out.size))
            clear hb5 KD z1 hcy hai hz3
            by_cases hdp : 63 ≤ depthM l o
            · have ED : Aside0 (declM l n = 72) := ⟨by rw [ED3.out, if_pos hdp]⟩
              go_wp2_with fail
              go_ret
              exact ⟨by rw [ED.out]; rfl, B5.out⟩
            have ED4 : Aside0 (declM l n = _) := ⟨ED3.out.trans (if_neg hdp)⟩
            have u2 : w5.cell? ⟨w1.heap.size, 2, none⟩ = some (.int .i64 s.f2.f0) := (blk_cell Q5.out.1 2).trans rfl
            have u3 : w5.cell? ⟨w1.heap.size, 3, none⟩ = some (.slice A3 s.f2.f1.length c3) := (blk_cell Q5.out.1 3).trans rfl
            have u4 : w5.cell? ⟨w1.heap.size, 4, none⟩ = some (.slice A4 s.f2.f2.length c4) := (blk_cell Q5.out.1 4).trans rfl
            have u5 : w5.cell? ⟨w1.heap.size, 5, none⟩ = some (.slice A5 s.f2.f3.length c5) := (blk_cell Q5.out.1 5).trans rfl
            have v2 : w5.cell? ⟨w3.heap.size, 2, none⟩ = some (.int .i64 so.f2.f0) := (blk_cell Q5.out.2 2).trans rfl
            have v3 : w5.cell? ⟨w3.heap.size, 3, none⟩ = some (.slice E3 so.f2.f1.length d3) := (blk_cell Q5.out.2 3).trans rfl
            have v4 : w5.cell? ⟨w3.heap.size, 4, none⟩ = some (.slice E4 so.f2.f2.length d4) := (blk_cell Q5.out.2 4).trans rfl
            have v5 : w5.cell? ⟨w3.heap.size, 5, none⟩ = some (.slice E5 so.f2.f3.length d5) := (blk_cell Q5.out.2 5).trans rfl
            have KC := r7Comp_calls A c l s.f2 A3 c3 A4 c4 A5 c5 so.f2 E3 d3 E4 d4 E5 d5 w5 (HL.out.below B5.out) HC.out (CI.out.below B5.out) (CO.out.below HB5.out)
            go_wp2_with fail
            refine KC.mono ?_
            rintro e w6 ⟨rfl, hb6⟩
            have B6 := Aside0.mk (B5.out.trans (hb6.mono B5.out.size))
            clear hb6 KC
            have ED5 := ED4.out
            cases hcm : compM l s.f2 so.f2 with
            | true =>
              have ED : Aside0 (declM l n = 0) := ⟨by rw [ED5, if_pos (by first | exact hcm | (rw [← HSO.out]; exact hcm))]⟩
              clear ED5 hcm
              go_wp2_with fail
              go_ret
              exact ⟨by rw [ED.out]; rfl, B6.out⟩
            | false =>
              have ED : Aside0 (declM l n = 71) := ⟨by rw [ED5, if_neg (by first | (rw [hcm]; simp) | (rw [← HSO.out, hcm]; simp))]⟩
              clear ED5 hcm
              go_wp2_with fail
              go_ret
              exact ⟨by rw [ED.out]; rfl, B6.out⟩
theorem down_of {l : List S62} {n : Int} (h : ∀ m : Int, 0 ≤ m → m < n → declM l m = 0) : Down l n := by
  intro x x0 x1 y hy
  have h0 := h x x0 x1
  unfold declM at h0
  by_cases he : ∃ h ∈ (tyAt l x).f1, x ≤ h
  · rw [if_pos he] at h0; omega
  · rcases Int.lt_or_le y x with h1 | h1
    · exact h1
    · exact absurd ⟨y, hy, h1⟩ he
/-- What Decl answers of closed groups: the first type that may not be declared so. -/
def DeclOut (l : List S62) (n e : Int) : Prop := (n = 0 ∧ e = 0 ∧ ∀ m : Int, 0 ≤ m → m < ((flat l).length : Int) → declM l m = 0) ∨ (0 ≤ n ∧ n < ((flat l).length : Int) ∧ e = declM l n ∧ e ≠ 0 ∧ ∀ m : Int, 0 ≤ m → m < n → declM l m = 0)
set_option maxRecDepth 100000 in
set_option maxHeartbeats 4000000 in
theorem r7Decl_yes (A : Option Addr) (c : Nat) (l : List S62) (w : World) (hl : LA w A c l) (hc : Clo l) :
    Calls Tryd.prog 28 #[.slice A l.length c] w fun e w' => ∃ n er, e = .returned (.tuple #[.int .i64 n, .int .i64 er]) ∧ DeclOut l n er ∧ Below w.heap.size w w' := by
  have HL := Aside0.mk hl
  have HC := Aside0.mk hc
  have hll := hl.flat_le
  obtain ⟨m, hm⟩ : ∃ m, m = (flat l).length := ⟨_, rfl⟩
  have HM := Aside0.mk hm
  rw [← hm] at hll
  have K := closed_ref A c l w hl
  clear hl hc hm
  go_enter Tryd.func28, Tryd.ntmps28
  go_wp2_with fail
  refine K.mono ?_
  rintro e w1 ⟨⟨n0, e0, rfl, ho⟩, hb⟩
  obtain ⟨rfl, rfl⟩ := ho.yes HC.out
  have B1 := Aside0.mk hb
  clear hb K ho
  go_wp2_with fail
  go_loopw [6] (fun i W => ∃ (k : Nat), i = .int .i64 k ∧ k ≤ m ∧ (∀ q : Int, 0 ≤ q → q < (k : Int) → declM l q = 0) ∧ Below w.heap.size w W) (fun i _ => m - (intOf i).toNat)
  case atStart => exact ⟨0, rfl, Nat.zero_le _, (fun q h0 h1 => by omega), B1.out⟩
  case round =>
    obtain ⟨k, rfl, hk, hall, hbw⟩ := hrel
    have ALL := Aside0.mk hall
    have W0 := Aside0.mk hbw
    have KC := r5Count_calls A c l wr (HL.out.below hbw)
    rw [← HM.out] at KC
    clear hall hbw
    have k0 : (0 : Int) ≤ (k : Int) := Int.natCast_nonneg k
    by_cases hlk : k < m
    · have kl : (k : Int) < (m : Int) := by omega
      go_wp2_with fail
      refine KC.mono ?_
      rintro e w2 ⟨rfl, hb⟩
      have W2 := Aside0.mk (W0.out.trans (hb.mono W0.out.size))
      clear hb KC
      go_wp2_with fail
      refine (r7declared_calls A c l (k : Int) w2 (HL.out.below W2.out) HC.out k0 (by rw [← HM.out]; exact kl) (down_of ALL.out)).mono ?_
      rintro e w3 ⟨rfl, hb⟩
      have W3 := Aside0.mk (W2.out.trans (hb.mono W2.out.size))
      obtain ⟨d, hd⟩ : ∃ d, d = declM l (k : Int) := ⟨_, rfl⟩
      rw [← hd]
      have HD := Aside0.mk hd
      clear hb hd
      by_cases hd0 : d = 0
      · subst hd0
        go_wp2_with fail
        go_roundw
        case rel => exact ⟨k + 1, by go_num, by omega, (fun q h0 h1 => (Int.lt_or_le q (k : Int)).elim (fun h => ALL.out q h0 h) (fun h => by have e_ : q = (k : Int) := (by push_cast at h1; omega); rw [e_]; exact HD.out.symm)), W3.out⟩
        case measure => simp [intOf]; omega
      · have hne : (d != 0) = true := by simp [hd0]
        go_wp2_with fail
        go_ret2
        exact ⟨(k : Int), d, rfl, .inr ⟨k0, by rw [← HM.out]; exact kl, HD.out, hd0, ALL.out⟩, W3.out⟩
    · obtain rfl : k = m := by omega
      have kl : ¬ ((k : Int) < (k : Int)) := by omega
      clear hk hlk
      go_wp2_with fail
      refine KC.mono ?_
      rintro e w2 ⟨rfl, hb⟩
      have W2 := Aside0.mk (W0.out.trans (hb.mono W0.out.size))
      clear hb KC
      go_wp2_with fail
      go_ret2
      exact ⟨0, 0, rfl, .inl ⟨rfl, rfl, by rw [← HM.out]; exact ALL.out⟩, W2.out⟩
set_option maxRecDepth 100000 in
theorem r7Decl_no (A : Option Addr) (c : Nat) (l : List S62) (w : World) (hl : LA w A c l) (hc : ¬ Clo l) :
    Calls Tryd.prog 28 #[.slice A l.length c] w fun e w' => ∃ n : Int, e = .returned (.tuple #[.int .i64 n, .int .i64 50]) ∧ CloOut l n 50 ∧ Below w.heap.size w w' := by
  have HC := Aside0.mk hc
  have K := closed_ref A c l w hl
  clear hl hc
  go_enter Tryd.func28, Tryd.ntmps28
  go_wp2_with fail
  refine K.mono ?_
  rintro e w1 ⟨⟨n0, e0, rfl, ho⟩, hb⟩
  obtain rfl := ho.no HC.out
  have B1 := Aside0.mk hb
  have HO := Aside0.mk ho
  clear hb K ho
  go_wp2_with fail
  go_ret2
  exact ⟨n0, rfl, HO.out, B1.out⟩
/-- The ids of a list, and what they tell: two types are one just if their groups, rolled up, are one, and their places in these. -/
structure IdsOf (l : List S62) (gs : List (List S53)) (I : List Int) : Prop where
  dist : Dist gs
  len : I.length = tcount l
  pos : ∀ i ∈ I, 0 ≤ i
  all : ∀ (j : Nat) (r : S62), l[j]? = some r → ∃ idx, gs[idx]? = some (ownG (I.take (tcount (l.take j))) r) ∧ ∀ o, o < r.f0.length → I[tcount (l.take j) + o]? = some (firstOf gs idx + o)
  same : ∀ x y : Nat, x < tcount l → y < tcount l → (SameT l x y ↔ rd I x = rd I y)
theorem idsOf_ex {l : List S62} (hc : Clo l) (ht : tcount l ≤ 1048576) : ∃ gs I, IdsOf l gs I := by
  obtain ⟨g1, i1, h1, h2⟩ := oneIds_self ht
  obtain ⟨hD, _, ⟨t, he, hl⟩, hch⟩ := addTo_char _ _ _ _ _ _ h1 Dist.nil
  refine ⟨g1, i1, hD, by rw [he]; simpa using hl, ids_nonneg h1 Dist.nil, fun j r hr => ?_, fun x y hx hy => sameT_iff (g1 := g1) hc h2 hx hy⟩
  obtain ⟨idx, ha, hb⟩ := hch j r hr
  simp only [List.length_nil, Nat.zero_add] at ha hb
  exact ⟨idx, ha, hb⟩
theorem SameT.refl {l : List S62} (hc : Clo l) (ht : tcount l ≤ 1048576) {x : Nat} (hx : x < tcount l) : SameT l x x := by
  obtain ⟨gs, I, h⟩ := idsOf_ex hc ht
  exact (h.same x x hx hx).2 rfl
theorem SameT.symm {l : List S62} (hc : Clo l) (ht : tcount l ≤ 1048576) {x y : Nat} (hx : x < tcount l) (hy : y < tcount l) (hs : SameT l x y) : SameT l y x := by
  obtain ⟨gs, I, h⟩ := idsOf_ex hc ht
  exact (h.same y x hy hx).2 ((h.same x y hx hy).1 hs).symm
theorem SameT.trans {l : List S62} (hc : Clo l) (ht : tcount l ≤ 1048576) {x y z : Nat} (hx : x < tcount l) (hy : y < tcount l) (hz : z < tcount l) (h1 : SameT l x y) (h2 : SameT l y z) : SameT l x z := by
  obtain ⟨gs, I, h⟩ := idsOf_ex hc ht
  exact (h.same x z hx hz).2 (((h.same x y hx hy).1 h1).trans ((h.same y z hy hz).1 h2))
/-- The chain above a type, in full. -/
def ch (l : List S62) (x : Int) : List Int := chain l ((flat l).length + 1) x
attribute [local go_sem] Oper.semAt_some
/-- The boxes of context.depth. -/
structure DB (w : World) (cb : Nat) (d : Int) (W : World) : Prop where
  b0 : W.heap[w.heap.size]? = some (.cells #[.int .i64 d] 3 (0, 0))
  b1 : W.heap[w.heap.size + 1]? = some (.cells #[.pointer (some ⟨cb, 0, none⟩)] 99 (0, 0))
  bel : Below w.heap.size w W
theorem DB.put {w W : World} {cb : Nat} {d : Int} (h : DB w cb d W) (l : Nat) (o : Obj) (hl : w.heap.size + 1 < l) (hlt : l < W.heap.size) : DB w cb d (W.putObj l o) :=
  ⟨(World.putObj_heap_other (by omega)).trans h.b0, (World.putObj_heap_other (by omega)).trans h.b1, h.bel.grown (grownBy_putObj' W l o) h.bel.size (fun k e => by cases e; omega)⟩
theorem DB.stays {w : World} {cb : Nat} {d : Int} {nb B : Nat} (hn : w.heap.size + 1 < nb) (hB : w.heap.size + 1 < B) : Stays nb B (fun W => DB w cb d W) where
  put := fun W l o hl hlt h => h.put l o (by omega) hlt
  set := fun W u h => ⟨blk_far h.b0 (show w.heap.size ≠ nb by omega) u, blk_far h.b1 (show w.heap.size + 1 ≠ nb by omega) u, h.bel.trans ((Below.refl _ _).setCell (p := ⟨nb, 0, none⟩) (by show w.heap.size ≤ nb; omega) u)⟩
  drew := fun W h => ⟨h.b0, h.b1, h.bel.drew⟩
  alloc := fun W o h => ⟨blk_alloc h.b0 o, blk_alloc h.b1 o, h.bel.alloc h.bel.size o⟩
/-- What the counter holds after k rounds. -/
def dvN : Nat → Int
  | 0 => -1
  | k + 1 => wrap64 (dvN k + 1)
theorem dvN_eq : ∀ k : Nat, k ≤ 1099511627776 → dvN k = (k : Int) - 1 := by
  intro k
  induction k with
  | zero => intro _; rfl
  | succ k ih =>
    intro h
    show wrap64 (dvN k + 1) = _
    rw [ih (by omega)]
    unfold wrap64
    omega
set_option maxRecDepth 100000 in
set_option maxHeartbeats 8000000 in
theorem sdepth_calls (l : List S62) (hc : Clo l) (cb : Nat) (n : Int) (w : World) (hctx : Ctx l cb w) (hll : (flat l).length ≤ 1048576) (n0 : 0 ≤ n) (n1 : n < ((flat l).length : Int)) :
    Calls Tryd.prog 76 #[.pointer (some ⟨cb, 0, none⟩), .int .i64 n] w fun e w' => e = .returned (.int .i64 (depthM l n)) ∧ Below w.heap.size w w' := by
  have HC := Aside0.mk hc
  have HLL := Aside0.mk hll
  have CW := Aside0.mk hctx
  have K3 := sabove_calls cb n (w.alloc (.cells #[.int .i64 (-1)] 3))
  clear hc hll hctx
  refine (callsIn_wide (n := 5)).1 ?_
  refine callsIn_of_wp_marks Tryd.func76 rfl trivial ?_ rfl
  simp only [Tryd.ntmps76, List.size_toArray, List.length_cons, List.length_nil, Nat.reduceAdd, Nat.reduceSub, Array.replicate_succ, Array.replicate_zero, List.push_toArray, List.append_toArray, List.nil_append, List.cons_append]
  gi_wp2_with (refine ⟨trivial, ?_⟩; gi_at_call 59; refine (callsIn_wide.2 K3).mono ?_; rintro e w1 ⟨rfl, rfl⟩)
  obtain ⟨W4, hW4⟩ : ∃ W4, W4 = (((w.alloc (.cells #[.int .i64 (-1)] 3)).alloc (.cells #[.pointer (some ⟨cb, 0, none⟩)] 99)).alloc (.cells #[.int .i64 n] 3)) := ⟨_, rfl⟩
  have hs4 : W4.heap.size = w.heap.size + 1 + 1 + 1 := by rw [hW4]; simp
  have hb4 : DB w cb (-1) W4 := ⟨by rw [hW4]; exact blk_alloc (blk_alloc (blk_new w _) _) _, by rw [hW4]; have h := blk_alloc (blk_new (w.alloc (.cells #[.int .i64 (-1)] 3)) (.cells #[.pointer (some ⟨cb, 0, none⟩)] 99)) (.cells #[.int .i64 n] 3); rw [World.size_alloc] at h; exact h, by rw [hW4]; exact (((Below.refl _ _).alloc (Nat.le_refl _) _).alloc (by simp) _).alloc (by simp; omega) _⟩
  have hx4 : W4.heap[w.heap.size + 1 + 1]? = some (.cells #[.int .i64 n] 3 (0, 0)) := by rw [hW4]; have h := blk_new ((w.alloc (.cells #[.int .i64 (-1)] 3)).alloc (.cells #[.pointer (some ⟨cb, 0, none⟩)] 99)) (.cells #[.int .i64 n] 3); rw [World.size_alloc, World.size_alloc] at h; exact h
  rw [← hW4]
  clear hW4 K3
  have H4 := Aside0.mk hb4
  have X4 := Aside0.mk hx4
  have S4 := Aside0.mk hs4
  clear hb4 hx4 hs4
  refine range_cell (gf := 75) (lb := #[.pointer (some ⟨w.heap.size + 1, 0, none⟩), .pointer (some ⟨w.heap.size + 1 + 1, 0, none⟩)]) (nb := w.heap.size + 1 + 1) rfl (fun args w => enters_ Tryd.func75 (by kernel_rfl) rfl args w) rfl
    (above_seq l HC.out cb (w.heap.size + 1) (w.heap.size + 1 + 1) n n0 n1 HLL.out 4) (by rw [S4.out]; omega) X4.out
    (fun p W => DB w cb (dvN p.length) W)
    (fun c p W => False)
    (fun p => DB.stays (by omega) (by rw [S4.out]; omega)) (fun p W h => ⟨h.b1, CW.out.below h.bel⟩)
    (fun c p W l_ o hl hlt h => h) H4.out ?a1 ?assign ?body ?done ?stop
  case assign =>
    intro rl x W K hK
    gi_wp2
    exact hK
  case body =>
    rintro rl p x W hB _
    have z0 : W.cell? ⟨w.heap.size, 0, none⟩ = some (.int .i64 (dvN p.length)) := (blk_cell hB.b0 0).trans rfl
    have f0 : W.frozen? ⟨w.heap.size, 0, none⟩ = false := blk_frozen hB.b0 0
    have HBD := Aside0.mk hB
    have hlen : (p ++ [x]).length = p.length + 1 := by simp
    have HLN := Aside0.mk hlen
    clear hB hlen
    gi_wp2
    refine ⟨⟨by simp, Below.heap_setCell W ⟨w.heap.size, 0, none⟩ _ _ (by show w.heap.size + 1 + 1 ≠ w.heap.size; omega), fun k hk1 hk2 => Below.heap_setCell W ⟨w.heap.size, 0, none⟩ _ k (by rw [S4.out] at hk1; show k ≠ w.heap.size; omega)⟩, ?_⟩
    show DB w cb (dvN (p ++ [x]).length) _
    rw [HLN.out]
    exact ⟨by have := blk_set HBD.out.b0 0 (.int .i64 (wrap64 (dvN p.length + 1))); show _ = some (Obj.cells #[.int .i64 (wrap64 (dvN p.length + 1))] 3 (0, 0)); simpa using this, blk_far HBD.out.b1 (show w.heap.size + 1 ≠ w.heap.size by omega) _, HBD.out.bel.trans ((Below.refl _ _).setCell (p := ⟨w.heap.size, 0, none⟩) (Nat.le_refl _) _)⟩
  case done =>
    rintro D p W hD rfl hB hK
    have z0 : W.cell? ⟨w.heap.size, 0, none⟩ = some (.int .i64 (dvN (chain l ((flat l).length + 1) n).length)) := (blk_cell hB.b0 0).trans rfl
    have ED : Aside0 (dvN (chain l ((flat l).length + 1) n).length = depthM l n) := ⟨by
      have := (depthM_bounds (l := l) (n := n)).2
      unfold depthM at this ⊢
      have h2 := HLL.out
      exact dvN_eq _ (by omega)⟩
    gi_wp2
    have hE := hB.put D (.deferred none) (by rw [S4.out] at hD; omega) (blk_lt' hK)
    refine ⟨by simp, .inl ⟨_, _, rfl, run_takeDeferred hK, ?_⟩⟩
    refine ⟨_, results_tmp rfl _ _ _, ?_, hE.bel⟩
    rw [← ED.out]
    rfl
  case stop =>
    rintro D c p W _ _ h _
    exact h.elim
end Go.Proofs.YtfgglniigeagdaaDoor.Cn
namespace Go.Proofs.YtfgglniigeagdaaDoor.Cn
set_option linter.unusedSimpArgs false
set_option linter.unusedVariables false
open Go.RowKit Go.Maps Go.Proofs.YtfgglniigeagdaaDoorW.PrintWords Go.Proofs.YtfgglniigeagdaaDoorW.PrintLast Go.Proofs.YtfgglniigeagdaaDoorW.PrintMore Go.Proofs.YtfgglniigeagdaaDoor.QD
set_option maxRecDepth 100000 in
set_option maxHeartbeats 4000000 in
theorem closed_calls2 (A : Option Addr) (c : Nat) (l : List S62) (w : World) (hr : Kd.C k62 w A l.length l) (hcap : l.length ≤ c) (hl : tcount l ≤ 1099511627776) (hl2 : l.length ≤ 1099511627776) (hq : ∀ r ∈ l, ∀ s ∈ r.f0, SOk (fun _ => True) s) :
    Calls Tryd.prog 25 #[.slice A l.length c] w fun e w' => (∃ (n : Int) (er : Int), e = .returned (.tuple #[.int .i64 n, .int .i64 er]) ∧ CloOut l n er) ∧ Below w.heap.size w w' := by
  have HR := Aside0.mk hr
  have HL := Aside0.mk hl
  have HQ := Aside0.mk hq
  have CS0 : CS w 0 (w.alloc (.cells #[.int .i64 0] 3)) := ⟨(Below.refl _ _).alloc (Nat.le_refl _) _, blk_new w _⟩
  clear hr hl hq
  go_enter Tryd.func25, Tryd.ntmps25
  go_wp2_with fail
  go_loopw [15, 4] (fun i n W => ∃ (j : Nat), i = .int .i64 j ∧ j ≤ l.length ∧ n = .int .i64 (tcount (l.take j) : Nat) ∧ CS w (tcount (l.take j) : Nat) W ∧ Clo (l.take j)) (fun i _ _ => l.length - (intOf i).toNat)
  case atStart => exact ⟨0, rfl, Nat.zero_le _, rfl, CS0, fun j r h => by simp at h⟩
  case round =>
    clear CS0
    obtain ⟨j, rfl, hj, rfl, hcs, hclo⟩ := hrel
    have C0 := Aside0.mk hcs
    have HCLO := Aside0.mk hclo
    clear hcs hclo
    by_cases hlt : j < l.length
    · obtain ⟨wo, rfl⟩ : ∃ wo : World, wo = wr := ⟨_, rfl⟩
      obtain ⟨ad, Ar, cr, rfl, d0, d1, hrc, hrC⟩ := at_T62 HR.out (j : Int) (by omega) (by omega)
      have HRJ := Aside0.mk (rd_RT_at l j hlt)
      simp only [Int.toNat_natCast] at d0 d1
      obtain ⟨r, hre⟩ : ∃ r, r = rd_T62 l (j : Int) := ⟨_, rfl⟩
      rw [← hre] at d0 d1 hrc hrC HRJ
      clear hre
      replace d0 := (C0.out.bel.cell (World.block_lt_of_cell? w _ d0)).trans d0
      replace d1 := (C0.out.bel.cell (World.block_lt_of_cell? w _ d1)).trans d1
      have HRC := Aside0.mk hrC
      obtain ⟨n0, hn0⟩ : ∃ n0 : Nat, n0 = tcount (l.take j) := ⟨_, rfl⟩
      have HN0 := Aside0.mk hn0
      rw [← hn0] at C0 ⊢
      have htj : n0 + r.f0.length ≤ 1099511627776 := by have := tcount_take_le l j r HRJ.out; have := HL.out; omega
      clear hrC hn0
      have C1 := Aside0.mk (C0.out.alloc (.cells #[.slice Ar r.f0.length cr, .bool r.f1] 62))
      have B1 := Aside0.mk (blk_new wo (.cells #[.slice Ar r.f0.length cr, .bool r.f1] 62))
      have en1 : (wo.alloc (.cells #[.slice Ar r.f0.length cr, .bool r.f1] 62)).cell? ⟨w.heap.size, 0, none⟩ = some (.int .i64 n0) := (blk_cell C1.out.en 0).trans rfl
      have fz1 : (wo.alloc (.cells #[.slice Ar r.f0.length cr, .bool r.f1] 62)).frozen? ⟨w.heap.size, 0, none⟩ = false := blk_frozen C1.out.en 0
      have hwlt : w.heap.size < wo.heap.size := C0.out.lt
      have hwr : wrap64 ((n0 : Int) + (r.f0.length : Int)) = (n0 : Int) + (r.f0.length : Int) := by unfold wrap64; omega
      have C2a : CS w ((n0 + r.f0.length : Nat) : Int) (wo.setCell ⟨w.heap.size, 0, none⟩ (.int .i64 ((n0 : Int) + (r.f0.length : Int)))) := ⟨C0.out.bel.trans ((Below.refl w.heap.size _).setCell (Nat.le_refl w.heap.size) _), by have := blk_set C0.out.en 0 (.int .i64 ((n0 : Int) + (r.f0.length : Int))); simpa using this⟩
      have C2 := Aside0.mk (C2a.alloc (.cells #[.slice Ar r.f0.length cr, .bool r.f1] 62))
      clear C2a
      go_wp2_with fail
      go_loopw [27, 4] (fun i n W => ∃ (k : Nat), i = .int .i64 k ∧ k ≤ r.f0.length ∧ n = .int .i64 ((n0 + k : Nat) : Int) ∧ CS w ((n0 + r.f0.length : Nat) : Int) W ∧ ∀ s ∈ r.f0.take k, typeOk ((n0 + r.f0.length : Nat) : Int) s = true) (fun i _ _ => r.f0.length - (intOf i).toNat)
      case atStart => exact ⟨0, rfl, Nat.zero_le _, rfl, C2.out, fun s h => by simp at h⟩
      case round =>
        clear en1 fz1 hwlt d0 d1
        obtain ⟨k, rfl, hk, rfl, hcs, hok⟩ := hrel
        have I0 := Aside0.mk hcs
        have HOK := Aside0.mk hok
        clear hcs hok
        by_cases hlk : k < r.f0.length
        · obtain ⟨wi, rfl⟩ : ∃ wi : World, wi = wr := ⟨_, rfl⟩
          obtain ⟨ae, A1, c1, A3, c3, A4, c4, A5, c5, ea, d0, d1, d2, d3, d4, d5, n1, r1, n3, r3, n4, r4, n5, r5⟩ := at_T53 HRC.out (k : Int) (by omega) (by omega)
          have HXK := Aside0.mk (rd_ST_at' r.f0 k hlk)
          cases ea
          simp only [Int.toNat_natCast] at d0 d1 d2 d3 d4 d5
          obtain ⟨x, hx⟩ : ∃ x, x = rd_T53 r.f0 (k : Int) := ⟨_, rfl⟩
          rw [← hx] at d0 d1 d2 d3 d4 d5 n1 r1 n3 r3 n4 r4 n5 r5 HXK
          clear hx
          replace d0 := (I0.out.bel.cell (World.block_lt_of_cell? w _ d0)).trans d0
          replace d1 := (I0.out.bel.cell (World.block_lt_of_cell? w _ d1)).trans d1
          replace d2 := (I0.out.bel.cell (World.block_lt_of_cell? w _ d2)).trans d2
          replace d3 := (I0.out.bel.cell (World.block_lt_of_cell? w _ d3)).trans d3
          replace d4 := (I0.out.bel.cell (World.block_lt_of_cell? w _ d4)).trans d4
          replace d5 := (I0.out.bel.cell (World.block_lt_of_cell? w _ d5)).trans d5
          have R1 := Aside0.mk r1
          have R3 := Aside0.mk r3
          have R4 := Aside0.mk r4
          have R5 := Aside0.mk r5
          have SI := Aside0.mk (HQ.out r (List.mem_of_getElem? HRJ.out) x (List.mem_of_getElem? HXK.out))
          have hx1 : x.f1.length ≤ 17592186044416 := by have := SI.out.l1; omega
          clear r1 r3 r4 r5
          have J1 := Aside0.mk ((I0.out.alloc (.cells #[.bool x.f0, .slice A1 x.f1.length c1, .int .i64 x.f2.f0, .slice A3 x.f2.f1.length c3, .slice A4 x.f2.f2.length c4, .slice A5 x.f2.f3.length c5] 53)).alloc (.cells #[.bool true] 4))
          have BX := Aside0.mk (blk_alloc (blk_new wi (.cells #[.bool x.f0, .slice A1 x.f1.length c1, .int .i64 x.f2.f0, .slice A3 x.f2.f1.length c3, .slice A4 x.f2.f2.length c4, .slice A5 x.f2.f3.length c5] 53)) (.cells #[.bool true] 4))
          have BO : Aside0 (((wi.alloc (.cells #[.bool x.f0, .slice A1 x.f1.length c1, .int .i64 x.f2.f0, .slice A3 x.f2.f1.length c3, .slice A4 x.f2.f2.length c4, .slice A5 x.f2.f3.length c5] 53)).alloc (.cells #[.bool true] 4)).heap[wi.heap.size + 1]? = some (.cells #[.bool true] 4 (0, 0))) := ⟨by have h_ := blk_new (wi.alloc (.cells #[.bool x.f0, .slice A1 x.f1.length c1, .int .i64 x.f2.f0, .slice A3 x.f2.f1.length c3, .slice A4 x.f2.f2.length c4, .slice A5 x.f2.f3.length c5] 53)) (.cells #[.bool true] 4); rw [World.size_alloc] at h_; exact h_⟩
          have WLT : Aside0 (w.heap.size < wi.heap.size) := ⟨I0.out.lt⟩
          go_wp2_with fail
          go_loopw [34] (fun i W => ∃ (q : Nat), i = .int .i64 q ∧ q ≤ x.f1.length ∧ CS w ((n0 + r.f0.length : Nat) : Int) W ∧ W.heap[wi.heap.size]? = some (.cells #[.bool x.f0, .slice A1 x.f1.length c1, .int .i64 x.f2.f0, .slice A3 x.f2.f1.length c3, .slice A4 x.f2.f2.length c4, .slice A5 x.f2.f3.length c5] 53 (0, 0)) ∧ W.heap[wi.heap.size + 1]? = some (.cells #[.bool (supOk (x.f1.take q))] 4 (0, 0))) (fun i _ => x.f1.length - (intOf i).toNat)
          case atStart => exact ⟨0, rfl, Nat.zero_le _, J1.out, BX.out, BO.out⟩
          case round =>
            obtain ⟨q, rfl, hq, hcs, hbx, hbo⟩ := hrel
            have L0 := Aside0.mk hcs
            have LX := Aside0.mk hbx
            have LO := Aside0.mk hbo
            clear hcs hbx hbo d0 d1 d2 d3 d4 d5
            by_cases hlq : q < x.f1.length
            · obtain ⟨ws, rfl⟩ : ∃ ws : World, ws = wr := ⟨_, rfl⟩
              obtain ⟨ai, y, rfl, hy, hc⟩ := at_int' R1.out q hlq
              have HY := Aside0.mk hy
              replace hc := (L0.out.bel.cell (World.block_lt_of_cell? w _ hc)).trans hc
              have ST := Aside0.mk (supOk_take x.f1 q y hy)
              clear hy
              obtain ⟨b, hb⟩ : ∃ b, b = supOk (x.f1.take q) := ⟨_, rfl⟩
              rw [← hb] at LO ST
              clear hb
              have e0 : ws.cell? ⟨wi.heap.size + 1, 0, none⟩ = some (.bool b) := (blk_cell LO.out 0).trans rfl
              have f0 : ws.frozen? ⟨wi.heap.size + 1, 0, none⟩ = false := blk_frozen LO.out 0
              rcases hbb : b with _ | _
              · subst hbb
                go_wp2_with fail
                go_roundw
                case rel =>
                  have e_ : supOk (x.f1.take (q + 1)) = false := by rw [ST.out]; rfl
                  refine ⟨q + 1, by go_num, by omega, L0.out.set (by have := WLT.out; omega) _, (Below.heap_setCell ws ⟨wi.heap.size + 1, 0, none⟩ _ _ (by simp)).trans LX.out, ?_⟩
                  rw [e_]
                  have := blk_set LO.out 0 (.bool false)
                  simpa using this
                case measure => simp [intOf]; omega
              · subst hbb
                by_cases hy0 : 0 ≤ y
                · go_wp2_with fail
                  go_roundw
                  case rel =>
                    have e_ : supOk (x.f1.take (q + 1)) = true := by rw [ST.out]; simp [hy0]
                    refine ⟨q + 1, by go_num, by omega, L0.out.set (by have := WLT.out; omega) _, (Below.heap_setCell ws ⟨wi.heap.size + 1, 0, none⟩ _ _ (by simp)).trans LX.out, ?_⟩
                    rw [e_]
                    have := blk_set LO.out 0 (.bool true)
                    simpa using this
                  case measure => simp [intOf]; omega
                · go_wp2_with fail
                  go_roundw
                  case rel =>
                    have e_ : supOk (x.f1.take (q + 1)) = false := by rw [ST.out]; simp [hy0]
                    refine ⟨q + 1, by go_num, by omega, L0.out.set (by have := WLT.out; omega) _, (Below.heap_setCell ws ⟨wi.heap.size + 1, 0, none⟩ _ _ (by simp)).trans LX.out, ?_⟩
                    rw [e_]
                    have := blk_set LO.out 0 (.bool false)
                    simpa using this
                  case measure => simp [intOf]; omega
            · obtain rfl : q = x.f1.length := by omega
              rw [List.take_length] at LO
              clear hq hlq
              obtain ⟨ws, rfl⟩ : ∃ ws : World, ws = wr := ⟨_, rfl⟩
              have x0 : ws.cell? ⟨wi.heap.size, 0, none⟩ = some (.bool x.f0) := (blk_cell LX.out 0).trans rfl
              have x1 : ws.cell? ⟨wi.heap.size, 1, none⟩ = some (.slice A1 x.f1.length c1) := (blk_cell LX.out 1).trans rfl
              have x2 : ws.cell? ⟨wi.heap.size, 2, none⟩ = some (.int .i64 x.f2.f0) := (blk_cell LX.out 2).trans rfl
              have x3 : ws.cell? ⟨wi.heap.size, 3, none⟩ = some (.slice A3 x.f2.f1.length c3) := (blk_cell LX.out 3).trans rfl
              have x4 : ws.cell? ⟨wi.heap.size, 4, none⟩ = some (.slice A4 x.f2.f2.length c4) := (blk_cell LX.out 4).trans rfl
              have x5 : ws.cell? ⟨wi.heap.size, 5, none⟩ = some (.slice A5 x.f2.f3.length c5) := (blk_cell LX.out 5).trans rfl
              go_wp2_with fail
              have KB := okCb (wi.heap.size + 1) w.heap.size ws.heap.size ((n0 + r.f0.length : Nat) : Int) (by have := WLT.out; omega) (blk_lt LO.out) L0.out.lt
              refine (turned_calls KB w (supOk x.f1) x.f0 x.f2.f0 A1 c1 x.f1 A3 c3 x.f2.f1 A4 c4 x.f2.f2 A5 c5 x.f2.f3 _ (Nat.le_refl _) L0.out.bel (by intro k_ e_; injection e_ with e_; have := WLT.out; omega) ⟨LO.out, L0.out.en⟩ R1.out R3.out R4.out R5.out (fun _ _ => trivial) (fun _ _ _ => trivial) (fun _ _ _ => trivial) (fun _ _ _ => trivial) SI.out.l1 SI.out.l2 SI.out.l3 SI.out.l4).mono ?_
              rintro e w3 ⟨v1, v2, v3, v4, rfl, _, _, _, _, hst, hgr⟩
              have S3 : OkSt (wi.heap.size + 1) w.heap.size ((n0 + r.f0.length : Nat) : Int) (typeOk ((n0 + r.f0.length : Nat) : Int) x) w3 := hst
              have P3 : Aside0 (CS w ((n0 + r.f0.length : Nat) : Int) w3) := ⟨⟨L0.out.bel.trans (bel_of_grown hgr L0.out.bel.size (fun k_ e_ => by injection e_ with e_; have := WLT.out; omega)), S3.en⟩⟩
              have ec : w3.cell? ⟨wi.heap.size + 1, 0, none⟩ = some (.bool (typeOk ((n0 + r.f0.length : Nat) : Int) x)) := (blk_cell S3.ok 0).trans rfl
              clear hst hgr S3 KB
              obtain ⟨b, hb⟩ : ∃ b, b = typeOk ((n0 + r.f0.length : Nat) : Int) x := ⟨_, rfl⟩
              have HB := Aside0.mk hb
              rw [← hb] at ec
              clear hb
              rcases hbb : b with _ | _
              · subst hbb
                go_wp2_with fail
                go_ret2
                refine ⟨⟨_, 50, rfl, Or.inr ⟨n0 + k, ⟨j, k, r, x, HRJ.out, HXK.out, by rw [HN0.out], by rw [tcount_take l j r HRJ.out, ← HN0.out]; exact HB.out.symm, ?_, ?_⟩, by go_num, rfl⟩⟩, P3.out.bel⟩
                · intro j' r' hj' hr' s' hs'
                  have h2 := HCLO.out j' r' (by rw [List.getElem?_take, if_pos hj']; exact hr') s' hs'
                  rw [List.take_take, show min (j' + 1) j = j' + 1 by omega] at h2
                  exact h2
                · intro i' s' hi' hs'
                  rw [tcount_take l j r HRJ.out, ← HN0.out]
                  exact HOK.out s' (List.mem_of_getElem? (by rw [List.getElem?_take, if_pos hi']; exact hs'))
              · subst hbb
                go_wp2_with fail
                go_roundw
                case rel =>
                  refine ⟨k + 1, by go_num, by omega, by go_num, P3.out, fun s hs => ?_⟩
                  rw [List.take_add_one, HXK.out] at hs
                  rcases List.mem_append.1 hs with hs | hs
                  · exact HOK.out s hs
                  · simp at hs
                    subst hs
                    exact HB.out.symm
                case measure => simp [intOf]; omega
        · obtain rfl : k = r.f0.length := by omega
          rw [List.take_length] at HOK
          clear hk hlk
          go_wp2_with fail
          go_roundw
          case rel =>
            refine ⟨j + 1, by go_num, by omega, by rw [tcount_take l j r HRJ.out, ← HN0.out], by rw [tcount_take l j r HRJ.out, ← HN0.out]; exact I0.out, fun i r' h' => ?_⟩
            rw [List.getElem?_take] at h'
            split at h'
            · rename_i hi
              rcases Nat.lt_or_ge i j with h1 | h1
              · have h2 := HCLO.out i r' (by rw [List.getElem?_take, if_pos h1]; exact h')
                rw [List.take_take] at h2 ⊢
                rw [show min (i + 1) j = i + 1 by omega] at h2
                rw [show min (i + 1) (j + 1) = i + 1 by omega]
                exact h2
              · obtain rfl : i = j := by omega
                rw [HRJ.out] at h'
                injection h' with h'
                subst h'
                rw [List.take_take, Nat.min_self, tcount_take l i r HRJ.out, ← HN0.out]
                exact HOK.out
            · cases h'
          case measure => simp [intOf]; omega
    · obtain rfl : j = l.length := by omega
      rw [List.take_length] at HCLO
      clear hj hlt
      go_wp2_with fail
      go_ret2
      exact ⟨⟨0, 0, rfl, Or.inl ⟨HCLO.out, rfl, rfl⟩⟩, C0.out.bel⟩
set_option maxRecDepth 100000 in
set_option maxHeartbeats 4000000 in
theorem sval_plain (p : Option Addr) (l : List S62) (a b : S74) (w : World) (h5 : ¬ (a.f0 = 5 ∧ b.f0 = 5)) :
    Calls Tryd.prog 56 #[.pointer p, .agg #[.int .i64 a.f0, .bool a.f1, .int .i64 a.f2], .agg #[.int .i64 b.f0, .bool b.f1, .int .i64 b.f2]] w fun e w' => e = .returned (.bool (valM l a b)) ∧ Below w.heap.size w w' := by
  obtain ⟨x0, x1, x2⟩ := a
  obtain ⟨y0, y1, y2⟩ := b
  dsimp only at h5 ⊢
  have ba : Below w.heap.size w ((w.alloc (.cells #[.int .i64 x0, .bool x1, .int .i64 x2] 74)).alloc (.cells #[.int .i64 y0, .bool y1, .int .i64 y2] 74)) := ((Below.refl _ _).alloc (Nat.le_refl _) _).alloc (by simp) _
  have BA := Aside0.mk ba
  clear ba
  by_cases h1 : x0 = y0
  · subst h1
    have h4 : ¬ x0 = 5 := fun h => h5 ⟨h, h⟩
    by_cases h2 : 1 ≤ x0
    · by_cases h3 : x0 ≤ 7
      · have EM : Aside0 (valM l ⟨x0, x1, x2⟩ ⟨x0, y1, y2⟩ = true) := ⟨by simp [valM, h2, h3, h4]⟩
        have hlt : ¬ x0 < 1 := by omega
        have hgt : ¬ 7 < x0 := by omega
        have hne : (x0 != 5) = true := by simp [h4]
        clear h5
        go_enter Tryd.func56, Tryd.ntmps56
        go_wp2_with fail
        go_ret
        exact ⟨by rw [EM.out]; rfl, BA.out⟩
      · have EM : Aside0 (valM l ⟨x0, x1, x2⟩ ⟨x0, y1, y2⟩ = false) := ⟨by simp [valM, h2, h3]⟩
        have hlt : ¬ x0 < 1 := by omega
        have hgt : 7 < x0 := by omega
        clear h5
        go_enter Tryd.func56, Tryd.ntmps56
        go_wp2_with fail
        go_ret
        exact ⟨by rw [EM.out]; rfl, BA.out⟩
    · have EM : Aside0 (valM l ⟨x0, x1, x2⟩ ⟨x0, y1, y2⟩ = false) := ⟨by simp [valM, h2]⟩
      have hlt : x0 < 1 := by omega
      clear h5
      go_enter Tryd.func56, Tryd.ntmps56
      go_wp2_with fail
      go_ret
      exact ⟨by rw [EM.out]; rfl, BA.out⟩
  · have EM : Aside0 (valM l ⟨x0, x1, x2⟩ ⟨y0, y1, y2⟩ = false) := ⟨by simp [valM, h1]⟩
    have e1 : (x0 != y0) = true := by simp [h1]
    clear h5
    go_enter Tryd.func56, Tryd.ntmps56
    go_wp2_with fail
    go_ret
    exact ⟨by rw [EM.out]; rfl, BA.out⟩
set_option maxRecDepth 100000 in
set_option maxHeartbeats 4000000 in
theorem sval_calls (l : List S62) (hc : Clo l) (cb : Nat) (a b : S74) (w : World) (hctx : Ctx l cb w) (hll : (flat l).length ≤ 1048576) :
    Calls Tryd.prog 56 #[.pointer (some ⟨cb, 0, none⟩), .agg #[.int .i64 a.f0, .bool a.f1, .int .i64 a.f2], .agg #[.int .i64 b.f0, .bool b.f1, .int .i64 b.f2]] w fun e w' => e = .returned (.bool (valM l a b)) ∧ Below w.heap.size w w' := by
  by_cases h5 : a.f0 = 5 ∧ b.f0 = 5
  rotate_left
  · exact sval_plain _ l a b w h5
  obtain ⟨x0, x1, x2⟩ := a
  obtain ⟨y0, y1, y2⟩ := b
  dsimp only at h5 ⊢
  obtain ⟨rfl, rfl⟩ := h5
  have ba : Below w.heap.size w ((w.alloc (.cells #[.int .i64 5, .bool x1, .int .i64 x2] 74)).alloc (.cells #[.int .i64 5, .bool y1, .int .i64 y2] 74)) := ((Below.refl _ _).alloc (Nat.le_refl _) _).alloc (by simp) _
  have BA := Aside0.mk ba
  have K := sheap_calls l hc cb x2 y2 _ (hctx.below ba) hll
  obtain ⟨h, hh⟩ : ∃ h, h = heapM l x2 y2 := ⟨_, rfl⟩
  have EM : Aside0 (valM l ⟨5, x1, x2⟩ ⟨5, y1, y2⟩ = (h && (!x1 || y1))) := ⟨by rw [hh]; simp [valM]⟩
  rw [← hh] at K
  clear hctx hc hll ba hh
  go_enter Tryd.func56, Tryd.ntmps56
  go_wp2_with fail
  refine K.mono ?_
  rintro e w1 ⟨rfl, hb⟩
  have B1 : Aside0 (Below w.heap.size w w1) := ⟨BA.out.trans (hb.mono BA.out.size)⟩
  have q0 := blk_below (blk_alloc (blk_new w (.cells #[.int .i64 5, .bool x1, .int .i64 x2] 74)) (.cells #[.int .i64 5, .bool y1, .int .i64 y2] 74)) hb
  have q1 : w1.heap[w.heap.size + 1]? = some (.cells #[.int .i64 5, .bool y1, .int .i64 y2] 74 (0, 0)) := by have h_ := blk_below (blk_new (w.alloc (.cells #[.int .i64 5, .bool x1, .int .i64 x2] 74)) (.cells #[.int .i64 5, .bool y1, .int .i64 y2] 74)) hb; rw [World.size_alloc] at h_; exact h_
  have z0 : w1.cell? ⟨w.heap.size, 1, none⟩ = some (.bool x1) := (blk_cell q0 1).trans rfl
  have z1 : w1.cell? ⟨w.heap.size + 1, 1, none⟩ = some (.bool y1) := (blk_cell q1 1).trans rfl
  clear hb K q0 q1
  cases h <;> cases x1 <;> cases y1 <;>
    (go_wp2_with fail
     go_ret
     exact ⟨by rw [EM.out]; rfl, B1.out⟩)
set_option maxRecDepth 100000 in
set_option maxHeartbeats 8000000 in
theorem svals_calls (hb_ : Nat) (l : List S62) (Aa : Option Addr) (ca : Nat) (us : List S74) (Ab : Option Addr) (cb : Nat) (vs : List S74) (w : World) (hl : Ctx l hb_ w) (hll : (flat l).length ≤ 1048576) (hc : Clo l) (hA : Kd.C k74 w Aa us.length us) (hB : Kd.C k74 w Ab vs.length vs) (hn : us.length ≤ 1048576) :
    Calls Tryd.prog 77 #[.pointer (some ⟨hb_, 0, none⟩), .slice Aa us.length ca, .slice Ab vs.length cb] w fun e w' => e = .returned (.bool (valsM l us vs)) ∧ Below w.heap.size w w' := by
  have HL := Aside0.mk hl
  have HC := Aside0.mk hc
  have HLL := Aside0.mk hll
  have HA := Aside0.mk hA
  have HB := Aside0.mk hB
  clear hl hll hc hA hB
  by_cases hlen : us.length = vs.length
  rotate_left
  · have EM : Aside0 (valsM l us vs = false) := ⟨by simp [valsM, hlen]⟩
    have e1 : ((us.length : Int) != (vs.length : Int)) = true := by simp; omega
    go_enter Tryd.func77, Tryd.ntmps77
    go_wp2_with fail
    go_ret
    exact ⟨by rw [EM.out]; rfl, Below.refl _ _⟩
  have EV : Aside0 (valsM l us vs = (us.zip vs).all fun p => valM l p.1 p.2) := ⟨by simp [valsM, hlen]⟩
  obtain ⟨n, hnn⟩ : ∃ n, n = us.length := ⟨_, rfl⟩
  have NA := Aside0.mk hnn
  have NB : Aside0 (n = vs.length) := ⟨hnn.trans hlen⟩
  rw [← hlen, ← hnn]
  rw [← hnn] at hn
  rw [← NA.out] at HA
  rw [← NB.out] at HB
  clear hnn hlen
  go_enter Tryd.func77, Tryd.ntmps77
  go_wp2_with fail
  go_loopw [15] (fun i W => ∃ (k : Nat), i = .int .i64 k ∧ k ≤ n ∧ ((us.zip vs).take k).all (fun p => valM l p.1 p.2) = true ∧ Below w.heap.size w W) (fun i _ => n - (intOf i).toNat)
  case atStart => exact ⟨0, rfl, Nat.zero_le _, by simp, Below.refl _ _⟩
  case round =>
    obtain ⟨k, rfl, hk, hall, hbw⟩ := hrel
    have W0 := Aside0.mk hbw
    have ALL := Aside0.mk hall
    clear hall hbw
    have k0 : (0 : Int) ≤ (k : Int) := Int.natCast_nonneg k
    by_cases hlk : k < n
    · obtain ⟨aa, ea, d0, d1, d2⟩ := at_T74 HA.out (k : Int) k0 (by omega)
      obtain ⟨ab, eb, f0, f1, f2⟩ := at_T74 HB.out (k : Int) k0 (by omega)
      subst ea
      subst eb
      have XA : Aside0 (us[k]? = some (rd_T74 us (k : Int))) := ⟨by unfold rd_T74; rw [Int.toNat_natCast, List.getD_eq_getElem?_getD, List.getElem?_eq_getElem (by have := NA.out; omega)]; rfl⟩
      have XB : Aside0 (vs[k]? = some (rd_T74 vs (k : Int))) := ⟨by unfold rd_T74; rw [Int.toNat_natCast, List.getD_eq_getElem?_getD, List.getElem?_eq_getElem (by have := NB.out; omega)]; rfl⟩
      obtain ⟨x, hx⟩ : ∃ x, x = rd_T74 us (k : Int) := ⟨_, rfl⟩
      obtain ⟨y, hy⟩ : ∃ y, y = rd_T74 vs (k : Int) := ⟨_, rfl⟩
      rw [← hx] at d0 d1 d2 XA
      rw [← hy] at f0 f1 f2 XB
      clear hx hy
      simp only [Int.toNat_natCast] at d0 d1 d2 f0 f1 f2
      replace d0 := (W0.out.cell (World.block_lt_of_cell? w _ d0)).trans d0
      replace d1 := (W0.out.cell (World.block_lt_of_cell? w _ d1)).trans d1
      replace d2 := (W0.out.cell (World.block_lt_of_cell? w _ d2)).trans d2
      replace f0 := (W0.out.cell (World.block_lt_of_cell? w _ f0)).trans f0
      replace f1 := (W0.out.cell (World.block_lt_of_cell? w _ f1)).trans f1
      replace f2 := (W0.out.cell (World.block_lt_of_cell? w _ f2)).trans f2
      have kl : (k : Int) < (n : Int) := by omega
      go_wp2_with fail
      refine start_ (n := 11) (S := fun w' => w'.cell? (aa.add (k * 3)) = some (.int .i64 x.f0) ∧ w'.cell? ⟨(aa.add (k * 3)).block, (aa.add (k * 3)).off + 1, none⟩ = some (.bool x.f1) ∧ w'.cell? ⟨(aa.add (k * 3)).block, (aa.add (k * 3)).off + 2, none⟩ = some (.int .i64 x.f2) ∧ w'.cell? (ab.add (k * 3)) = some (.int .i64 y.f0) ∧ w'.cell? ⟨(ab.add (k * 3)).block, (ab.add (k * 3)).off + 1, none⟩ = some (.bool y.f1) ∧ w'.cell? ⟨(ab.add (k * 3)).block, (ab.add (k * 3)).off + 2, none⟩ = some (.int .i64 y.f2)) (ds := []) #[false, false, false, false, false, false, false, false, false, false, false] (by kernel_rfl) rfl rfl ⟨d0, d1, d2, f0, f1, f2⟩ (fun hHeld => ?_)
      have BD : Aside0 (Below w.heap.size w wr.drew) := ⟨W0.out.drew⟩
      replace d0 : wr.drew.cell? _ = _ := d0
      replace d1 : wr.drew.cell? _ = _ := d1
      replace d2 : wr.drew.cell? _ = _ := d2
      replace f0 : wr.drew.cell? _ = _ := f0
      replace f1 : wr.drew.cell? _ = _ := f1
      replace f2 : wr.drew.cell? _ = _ := f2
      generalize wr.drew = w5 at BD d0 d1 d2 f0 f1 f2 hHeld ⊢
      refine pure_ (i := 0) (N := some 18) (v := ?_) (a' := ?_) #[true, false, false, false, false, false, false, false, false, false, false] rfl rfl (by kernel_rfl) (fun _ _ _ h => h) (Or.inl ⟨by rfl, ?_⟩) ?_ ?_
      rotate_left
      · intro w'
        go_simp
        with_reducible rfl
      rotate_left
      · simp only [Act.put, List.setIfInBounds_toArray, List.set_cons_zero, List.set_cons_succ, i64_w, i32_w]
        rfl
      refine pure_ (i := 1) (N := some 19) (v := ?_) (a' := ?_) #[true, true, false, false, false, false, false, false, false, false, false] rfl rfl (by kernel_rfl) (fun _ _ _ h => h) (Or.inl ⟨by rfl, ?_⟩) ?_ ?_
      rotate_left
      · intro w'
        go_simp
        with_reducible rfl
      rotate_left
      · simp only [Act.put, List.setIfInBounds_toArray, List.set_cons_zero, List.set_cons_succ, i64_w, i32_w]
        rfl
      refine pure_ (i := 2) (N := some 20) (v := ?_) (a' := ?_) #[true, true, true, false, false, false, false, false, false, false, false] rfl rfl (by kernel_rfl) (fun _ _ _ h => h) (Or.inl ⟨by rfl, ?_⟩) ?_ ?_
      rotate_left
      · intro w'
        go_simp
        with_reducible rfl
      rotate_left
      · simp only [Act.put, List.setIfInBounds_toArray, List.set_cons_zero, List.set_cons_succ, i64_w, i32_w]
        rfl
      refine pure_ (i := 3) (N := some 21) (v := ?_) (a' := ?_) #[true, true, true, true, false, false, false, false, false, false, false] rfl rfl (by kernel_rfl) (fun _ _ _ h => h) (Or.inl ⟨by rfl, ?_⟩) ?_ ?_
      rotate_left
      · intro w'
        go_simp
        with_reducible rfl
      rotate_left
      · simp only [Act.put, List.setIfInBounds_toArray, List.set_cons_zero, List.set_cons_succ, i64_w, i32_w]
        rfl
      refine pure_ (i := 5) (N := some 23) (v := ?_) (a' := ?_) #[true, true, true, true, false, true, false, false, false, false, false] rfl rfl (by kernel_rfl) (fun _ _ _ h => h) (Or.inl ⟨by rfl, ?_⟩) ?_ ?_
      rotate_left
      · intro w'
        go_simp
        with_reducible rfl
      rotate_left
      · simp only [Act.put, List.setIfInBounds_toArray, List.set_cons_zero, List.set_cons_succ, i64_w, i32_w]
        rfl
      refine pure_ (i := 6) (N := some 24) (v := ?_) (a' := ?_) #[true, true, true, true, false, true, true, false, false, false, false] rfl rfl (by kernel_rfl) (fun _ _ _ h => h) (Or.inl ⟨by rfl, ?_⟩) ?_ ?_
      rotate_left
      · intro w'
        go_simp
        with_reducible rfl
      rotate_left
      · simp only [Act.put, List.setIfInBounds_toArray, List.set_cons_zero, List.set_cons_succ, i64_w, i32_w]
        rfl
      refine pure_ (i := 7) (N := some 25) (v := ?_) (a' := ?_) #[true, true, true, true, false, true, true, true, false, false, false] rfl rfl (by kernel_rfl) (fun _ _ _ h => h) (Or.inl ⟨by rfl, ?_⟩) ?_ ?_
      rotate_left
      · intro w'
        go_simp
        with_reducible rfl
      rotate_left
      · simp only [Act.put, List.setIfInBounds_toArray, List.set_cons_zero, List.set_cons_succ, i64_w, i32_w]
        rfl
      refine take_ (i := 4) (N := some 22) (v := ?_) (a' := ?_) #[true, true, true, true, true, true, true, true, false, false, false] rfl rfl (by kernel_rfl) (fun _ _ _ h => h) (Or.inl ⟨by rfl, ?_⟩) hHeld ?_ ?_
      rotate_left
      · rintro w' ⟨s0, s1, s2, s3, s4, s5⟩
        go_simp
        with_reducible rfl
      rotate_left
      · simp only [Act.put, List.setIfInBounds_toArray, List.set_cons_zero, List.set_cons_succ, i64_w, i32_w]
        rfl
      refine take_ (i := 8) (N := some 26) (v := ?_) (a' := ?_) #[true, true, true, true, true, true, true, true, true, false, false] rfl rfl (by kernel_rfl) (fun _ _ _ h => h) (Or.inl ⟨by rfl, ?_⟩) hHeld ?_ ?_
      rotate_left
      · rintro w' ⟨s0, s1, s2, s3, s4, s5⟩
        go_simp
        with_reducible rfl
      rotate_left
      · simp only [Act.put, List.setIfInBounds_toArray, List.set_cons_zero, List.set_cons_succ, i64_w, i32_w]
        rfl
      refine one_ (i := 9) (N := some 27) #[true, true, true, true, true, true, true, true, true, true, false] rfl rfl (by kernel_rfl) (by decide) (fun K hK => ?_)
      refine goes_ Tryd.func56 (by kernel_rfl) rfl #[.pointer (some ⟨hb_, 0, none⟩), .agg #[.int .i64 x.f0, .bool x.f1, .int .i64 x.f2], .agg #[.int .i64 y.f0, .bool y.f1, .int .i64 y.f2]] (by rfl) rfl rfl (by simp only [List.map_toArray, List.map_cons, List.map_nil]; rfl) ?_
      refine (sval_calls l HC.out hb_ x y w5 (HL.out.below BD.out) HLL.out).mono ?_
      rintro e w6 ⟨rfl, hb6⟩
      have B6 := Aside0.mk (BD.out.trans (hb6.mono BD.out.size))
      refine ⟨_, rfl, ?_⟩
      refine hK.out _ _ ⟨(hb6.cell (World.block_lt_of_cell? w5 _ d0)).trans d0, (hb6.cell (World.block_lt_of_cell? w5 _ d1)).trans d1, (hb6.cell (World.block_lt_of_cell? w5 _ d2)).trans d2, (hb6.cell (World.block_lt_of_cell? w5 _ f0)).trans f0, (hb6.cell (World.block_lt_of_cell? w5 _ f1)).trans f1, (hb6.cell (World.block_lt_of_cell? w5 _ f2)).trans f2⟩ (fun hHeld => ?_)
      clear hK K
      refine norm_ (a' := ?_) ?_ ?_
      rotate_left
      · show Act.put _ (some 27) _ = _
        simp only [Act.put, List.setIfInBounds_toArray, List.set_cons_zero, List.set_cons_succ, i64_w, i32_w]
        rfl
      refine pure_ (i := 10) (N := some 28) (v := ?_) (a' := ?_) #[true, true, true, true, true, true, true, true, true, true, true] rfl rfl (by kernel_rfl) (fun _ _ _ h => h) (Or.inl ⟨by rfl, ?_⟩) ?_ ?_
      rotate_left
      · intro w'
        go_simp
        with_reducible rfl
      rotate_left
      · simp only [Act.put, List.setIfInBounds_toArray, List.set_cons_zero, List.set_cons_succ, i64_w, i32_w]
        rfl
      refine done_ (by kernel_rfl) ?_
      
      clear d0 d1 d2 f0 f1 f2
      cases hv : valM l x y with
      | false =>
        have EF : Aside0 (valsM l us vs = false) := ⟨by rw [EV.out]; exact zip_stop XA.out XB.out hv⟩
        clear hv
        go_wp2_with fail
        go_ret
        exact ⟨by rw [EF.out]; rfl, B6.out⟩
      | true =>
        have ES : Aside0 (((us.zip vs).take (k + 1)).all (fun p => valM l p.1 p.2) = true) := ⟨by rw [zip_snoc XA.out XB.out, ALL.out, hv]; rfl⟩
        clear hv
        go_wp2_with fail
        go_roundw
        case rel => exact ⟨k + 1, by go_num, by omega, ES.out, B6.out⟩
        case measure => simp [intOf]; omega
    · obtain rfl : k = n := by omega
      have EF : Aside0 (valsM l us vs = true) := ⟨by
        have h := ALL.out
        rw [List.take_of_length_le (by rw [List.length_zip, ← NA.out, ← NB.out]; omega)] at h
        rw [EV.out]; exact h⟩
      clear hk hlk
      go_wp2_with fail
      go_ret
      exact ⟨by rw [EF.out]; rfl, W0.out⟩
set_option maxRecDepth 100000 in
set_option maxHeartbeats 4000000 in
theorem sfield_calls (hb_ : Nat) (l : List S62) (a b : S118) (w : World) (hl : Ctx l hb_ w) (hll : (flat l).length ≤ 1048576) (hc : Clo l) :
    Calls Tryd.prog 78 #[.pointer (some ⟨hb_, 0, none⟩), .agg #[.int .i64 a.f0.f0, .bool a.f0.f1, .int .i64 a.f0.f2, .bool a.f1], .agg #[.int .i64 b.f0.f0, .bool b.f0.f1, .int .i64 b.f0.f2, .bool b.f1]] w fun e w' => e = .returned (.bool (fieldM l a b)) ∧ Below w.heap.size w w' := by
  obtain ⟨x, mx⟩ := a
  obtain ⟨y, my⟩ := b
  dsimp only
  have ba : Below w.heap.size w ((w.alloc (.cells #[.int .i64 x.f0, .bool x.f1, .int .i64 x.f2, .bool mx] 118)).alloc (.cells #[.int .i64 y.f0, .bool y.f1, .int .i64 y.f2, .bool my] 118)) := ((Below.refl _ _).alloc (Nat.le_refl _) _).alloc (by simp) _
  have BA := Aside0.mk ba
  have HL := Aside0.mk hl
  have HC := Aside0.mk hc
  have HLL := Aside0.mk hll
  have K := sval_calls l hc hb_ x y _ (hl.below ba) hll
  clear hl hll hc ba
  by_cases hm : mx = my
  rotate_left
  · have EM : Aside0 (fieldM l ⟨x, mx⟩ ⟨y, my⟩ = false) := ⟨by simp [fieldM, hm]⟩
    have e1 : (mx == my) = false := by simp [hm]
    clear K
    go_enter Tryd.func78, Tryd.ntmps78
    go_wp2_with fail
    go_ret
    exact ⟨by rw [EM.out]; rfl, BA.out⟩
  subst hm
  cases hv : valM l x y with
  | false =>
    have EM : Aside0 (fieldM l ⟨x, mx⟩ ⟨y, mx⟩ = false) := ⟨by simp [fieldM, hv]⟩
    rw [hv] at K
    clear hv
    go_enter Tryd.func78, Tryd.ntmps78
    go_wp2_with fail
    refine K.mono ?_
    rintro e w1 ⟨rfl, hb⟩
    have B1 : Aside0 (Below w.heap.size w w1) := ⟨BA.out.trans (hb.mono BA.out.size)⟩
    clear hb K
    go_wp2_with fail
    go_ret
    exact ⟨by rw [EM.out]; rfl, B1.out⟩
  | true =>
    have EM : Aside0 (fieldM l ⟨x, mx⟩ ⟨y, mx⟩ = (!mx || valM l y x)) := ⟨by simp [fieldM, hv]⟩
    rw [hv] at K
    clear hv
    go_enter Tryd.func78, Tryd.ntmps78
    go_wp2_with fail
    refine K.mono ?_
    rintro e w1 ⟨rfl, hb⟩
    have B1 : Aside0 (Below w.heap.size w w1) := ⟨BA.out.trans (hb.mono BA.out.size)⟩
    have q0 := blk_below (blk_alloc (blk_new w (.cells #[.int .i64 x.f0, .bool x.f1, .int .i64 x.f2, .bool mx] 118)) (.cells #[.int .i64 y.f0, .bool y.f1, .int .i64 y.f2, .bool mx] 118)) hb
    have q1 : w1.heap[w.heap.size + 1]? = some (.cells #[.int .i64 y.f0, .bool y.f1, .int .i64 y.f2, .bool mx] 118 (0, 0)) := by have h_ := blk_below (blk_new (w.alloc (.cells #[.int .i64 x.f0, .bool x.f1, .int .i64 x.f2, .bool mx] 118)) (.cells #[.int .i64 y.f0, .bool y.f1, .int .i64 y.f2, .bool mx] 118)) hb; rw [World.size_alloc] at h_; exact h_
    have z00 : w1.cell? ⟨w.heap.size, 0, none⟩ = some (.int .i64 x.f0) := (blk_cell q0 0).trans rfl
    have z01 : w1.cell? ⟨w.heap.size, 1, none⟩ = some (.bool x.f1) := (blk_cell q0 1).trans rfl
    have z02 : w1.cell? ⟨w.heap.size, 2, none⟩ = some (.int .i64 x.f2) := (blk_cell q0 2).trans rfl
    have z03 : w1.cell? ⟨w.heap.size, 3, none⟩ = some (.bool mx) := (blk_cell q0 3).trans rfl
    have z10 : w1.cell? ⟨w.heap.size + 1, 0, none⟩ = some (.int .i64 y.f0) := (blk_cell q1 0).trans rfl
    have z11 : w1.cell? ⟨w.heap.size + 1, 1, none⟩ = some (.bool y.f1) := (blk_cell q1 1).trans rfl
    have z12 : w1.cell? ⟨w.heap.size + 1, 2, none⟩ = some (.int .i64 y.f2) := (blk_cell q1 2).trans rfl
    clear hb K q0 q1
    cases mx with
    | false =>
      go_wp2_with fail
      go_ret
      exact ⟨by rw [EM.out]; rfl, B1.out⟩
    | true =>
      go_wp2_with fail
      refine (sval_calls l HC.out hb_ y x w1 (HL.out.below B1.out) HLL.out).mono ?_
      rintro e w2 ⟨rfl, hb⟩
      have B2 := Aside0.mk (B1.out.trans (hb.mono B1.out.size))
      clear hb
      go_wp2_with fail
      go_ret
      exact ⟨by rw [EM.out]; rfl, B2.out⟩
end Go.Proofs.YtfgglniigeagdaaDoor.Cn
