/- Parts of the proof of subMeets_holds (19 of 20): what it says and shows stands at its declarations. -/
import Derived.Test.YtfgglniigeagdaaDoorZSm18
namespace Go.Proofs.YtfgglniigeagdaaDoor.Cn
set_option linter.unusedSimpArgs false
set_option linter.unusedVariables false
open Go.RowKit Go.Maps Go.Proofs.YtfgglniigeagdaaDoorW.PrintWords Go.Proofs.YtfgglniigeagdaaDoorW.PrintLast Go.Proofs.YtfgglniigeagdaaDoorW.PrintMore Go.Proofs.YtfgglniigeagdaaDoor.QD
/-- The boxes of Join. -/
structure JB (w : World) (cb cx : Nat) (b h : Int) (v : Bool) (W : World) : Prop where
  b0 : W.heap[w.heap.size]? = some (.cells #[.int .i64 b] 3 (0, 0))
  b1 : W.heap[w.heap.size + 1]? = some (.cells #[.int .i64 h] 3 (0, 0))
  b2 : W.heap[w.heap.size + 1 + 1]? = some (.cells #[.bool v] 4 (0, 0))
  b3 : W.heap[cx]? = some (.cells #[.pointer (some ⟨cb, 0, none⟩)] 99 (0, 0))
  bel : Below w.heap.size w W
  cxl : w.heap.size + 1 + 1 < cx
theorem JB.drew {w W : World} {cb cx : Nat} {b h : Int} {v : Bool} (j : JB w cb cx b h v W) : JB w cb cx b h v W.drew := ⟨j.b0, j.b1, j.b2, j.b3, j.bel.drew, j.cxl⟩
theorem JB.below {w W W' : World} {cb cx : Nat} {b h : Int} {v : Bool} (j : JB w cb cx b h v W) (hb : Below W.heap.size W W') : JB w cb cx b h v W' := ⟨blk_below j.b0 hb, blk_below j.b1 hb, blk_below j.b2 hb, blk_below j.b3 hb, j.bel.trans (hb.mono j.bel.size), j.cxl⟩
theorem JB.st1 {w W : World} {cb cx : Nat} {b h : Int} {v : Bool} (j : JB w cb cx b h v W) (u : Int) : JB w cb cx b u v (W.setCell ⟨w.heap.size + 1, 0, none⟩ (.int .i64 u)) :=
  ⟨blk_far j.b0 (show w.heap.size ≠ w.heap.size + 1 by omega) _, by have := blk_set j.b1 0 (.int .i64 u); simpa using this, blk_far j.b2 (show w.heap.size + 1 + 1 ≠ w.heap.size + 1 by omega) _, blk_far j.b3 (show cx ≠ w.heap.size + 1 by have := j.cxl; omega) _, j.bel.trans ((Below.refl _ _).setCell (p := ⟨w.heap.size + 1, 0, none⟩) (by show w.heap.size ≤ w.heap.size + 1; omega) _), j.cxl⟩
theorem JB.st2 {w W : World} {cb cx : Nat} {b h : Int} {v : Bool} (j : JB w cb cx b h v W) (u : Bool) : JB w cb cx b h u (W.setCell ⟨w.heap.size + 1 + 1, 0, none⟩ (.bool u)) :=
  ⟨blk_far j.b0 (show w.heap.size ≠ w.heap.size + 1 + 1 by omega) _, blk_far j.b1 (show w.heap.size + 1 ≠ w.heap.size + 1 + 1 by omega) _, by have := blk_set j.b2 0 (.bool u); simpa using this, blk_far j.b3 (show cx ≠ w.heap.size + 1 + 1 by have := j.cxl; omega) _, j.bel.trans ((Below.refl _ _).setCell (p := ⟨w.heap.size + 1 + 1, 0, none⟩) (by show w.heap.size ≤ w.heap.size + 1 + 1; omega) _), j.cxl⟩
theorem results_cells2 {P : Program} {fn : Func} {p u : Tmp} {ty tz : TypeId} (h : fn.results = #[.cell p ty, .cell u tz]) (tmps : Array Value) (w : World) (g k : Nat) (x y : Value)
    (hp : tmps.getD p undef = .pointer (some ⟨g, 0, none⟩)) (hu : tmps.getD u undef = .pointer (some ⟨k, 0, none⟩)) (hl : (loadVar ty ⟨g, 0, none⟩).run P w = .ok x w) (hm : (loadVar tz ⟨k, 0, none⟩).run P w = .ok y w) :
    (results fn tmps).run P w = .ok (.tuple #[x, y]) w := by
  have hp' : tmps[p]?.getD undef = .pointer (some ⟨g, 0, none⟩) := by simpa using hp
  have hu' : tmps[u]?.getD undef = .pointer (some ⟨k, 0, none⟩) := by simpa using hu
  simp [results, h, hp', hu', asAddr, hl, hm, Sem.run_bind, Result.andThen]
theorem JB.fin {w W : World} {cb cx : Nat} {b h : Int} {v : Bool} (j : JB w cb cx b h v W) {tmps : Array Value} (hp : tmps.getD 6 undef = .pointer (some ⟨w.heap.size + 1, 0, none⟩)) (hu : tmps.getD 7 undef = .pointer (some ⟨w.heap.size + 1 + 1, 0, none⟩)) :
    (results Tryd.f34 tmps).run Tryd.prog W = .ok (.tuple #[.int .i64 h, .bool v]) W := by
  have z1 : W.cell? ⟨w.heap.size + 1, 0, none⟩ = some (.int .i64 h) := (blk_cell j.b1 0).trans rfl
  have z2 : W.cell? ⟨w.heap.size + 1 + 1, 0, none⟩ = some (.bool v) := (blk_cell j.b2 0).trans rfl
  exact results_cells2 rfl tmps W _ _ _ _ hp hu (by go_simp) (by go_simp)
set_option maxRecDepth 100000 in
theorem stop_calls (l : List S62) (cb : Nat) (h : Int) (w : World) (hc : Ctx l cb w) (hh : isM l h = true) : Calls Tryd.prog 58 #[.pointer (some ⟨cb, 0, none⟩), .int .i64 h] w fun e w' => e = .returned (.int .i64 (topM l h)) ∧ w' = w := by
  obtain ⟨h0, h1⟩ := isM_bounds hh
  obtain ⟨s0, s1⟩ := startM_in hh
  by_cases hn : 0 ≤ h
  · have K1 := skind_calls l cb h w hc hn h1
    have e : startM l h = kindOf l h := by unfold startM; rw [if_pos hn]
    rw [e] at s0 s1
    have K2 := sfamily_calls (kindOf l h) w s0 s1
    have E : Aside0 (topM l h = famH (kindOf l h)) := ⟨by unfold topM; rw [e]⟩
    clear hc hh h1 s0 s1 e h0
    go_enter Tryd.func58, Tryd.ntmps58
    go_wp2_with fail
    refine K1.mono ?_
    rintro e w1 ⟨rfl, rfl⟩
    go_wp2_with fail
    refine K2.mono ?_
    rintro e w2 ⟨rfl, rfl⟩
    go_wp2_with fail
    go_ret
    exact ⟨by rw [E.out]; rfl, rfl⟩
  · have e : startM l h = h := by unfold startM; rw [if_neg hn]
    rw [e] at s0 s1
    have K2 := sfamily_calls h w s0 s1
    have E : Aside0 (topM l h = famH h) := ⟨by unfold topM; rw [e]⟩
    have hn' : h < 0 := by omega
    clear hc hh h1 s0 s1 e h0 hn
    go_enter Tryd.func58, Tryd.ntmps58
    go_wp2_with fail
    refine K2.mono ?_
    rintro e w2 ⟨rfl, rfl⟩
    go_wp2_with fail
    go_ret
    exact ⟨by rw [E.out]; rfl, rfl⟩
theorem start_ten {l : List S62} {a b : Int} (ha : isM l a = true) (hb : isM l b = true) (ht : topM l a = topM l b) (h : heapM l a b = false) : startM l a ≠ -10 := by
  intro e
  by_cases a0 : 0 ≤ a
  · unfold startM at e
    rw [if_pos a0] at e
    have := kindM_in (tyAt l a).f2.f0
    unfold kindOf at e
    omega
  · have e2 : startM l a = a := by unfold startM; rw [if_neg a0]
    rw [e2] at e
    subst e
    have ht' : famH (startM l b) = -5 := by unfold topM at ht; rw [e2] at ht; rw [← ht]; rfl
    obtain ⟨b0, b1⟩ := isM_bounds hb
    by_cases bn : b < 0
    · rw [heapM_abs ha b0 bn, e2] at h
      have e3 : startM l b = b := by unfold startM; rw [if_neg (by omega)]
      rw [e3] at ht'
      unfold absM at h
      rw [if_pos rfl, ht'] at h
      simp at h
    · have e3 : startM l b = kindOf l b := by unfold startM; rw [if_pos (by omega)]
      rw [e3] at ht'
      rw [heapM_bot' ha hb (by decide) (by omega) (.inl ⟨rfl, fun k => by rw [k] at ht'; revert ht'; decide⟩)] at h
      cases h
set_option maxRecDepth 100000 in
set_option maxHeartbeats 8000000 in
theorem sjoin_plain (A : Option Addr) (c : Nat) (l : List S62) (a b : Int) (w : World) (hl : LA w A c l) (hc : Clo l) (htab : Lib.TabBelow Tryd.prog w.heap.size w "internal/strconv.uint64pow10" .u64 Lib.pow10Tab)
    (hno : ¬ ((isM l a = true ∧ isM l b = true ∧ topM l a = topM l b) ∧ 0 ≤ a ∧ 0 ≤ b)) :
    Calls Tryd.prog 34 #[.slice A l.length c, .int .i64 a, .int .i64 b] w fun e w' => ∃ h ok, e = .returned (.tuple #[.int .i64 h, .bool ok]) ∧ JoinOut l a b h ok ∧ Below w.heap.size w w' := by
  have HNO := Aside0.mk hno
  clear hno
  obtain ⟨W0, hW0⟩ : ∃ W0, W0 = (((w.alloc (.cells #[.int .i64 b] 3)).alloc (.cells #[.int .i64 0] 3)).alloc (.cells #[.bool false] 4)) := ⟨_, rfl⟩
  have ba : Below w.heap.size w W0 := by rw [hW0]; exact (((Below.refl _ _).alloc (Nat.le_refl _) _).alloc (by simp) _).alloc (by simp; omega) _
  have x0 : W0.heap[w.heap.size]? = some (.cells #[.int .i64 b] 3 (0, 0)) := by rw [hW0]; exact blk_alloc (blk_alloc (blk_new w _) _) _
  have x1 : W0.heap[w.heap.size + 1]? = some (.cells #[.int .i64 0] 3 (0, 0)) := by rw [hW0]; have h := blk_alloc (blk_new (w.alloc (.cells #[.int .i64 b] 3)) (.cells #[.int .i64 0] 3)) (.cells #[.bool false] 4); rw [World.size_alloc] at h; exact h
  have x2 : W0.heap[w.heap.size + 1 + 1]? = some (.cells #[.bool false] 4 (0, 0)) := by rw [hW0]; have h := blk_new ((w.alloc (.cells #[.int .i64 b] 3)).alloc (.cells #[.int .i64 0] 3)) (.cells #[.bool false] 4); rw [World.size_alloc, World.size_alloc] at h; exact h
  have K := opened_calls A c l W0 (hl.below ba) (tab_mono (htab.on ba) ba.size)
  have HC := Aside0.mk hc
  have HLL := Aside0.mk hl.flat_le
  have BA := Aside0.mk ba
  have X := Aside0.mk (And.intro x0 (And.intro x1 x2))
  clear hl hc htab ba x0 x1 x2
  go_enter Tryd.func34, Tryd.ntmps34
  go_wp2_with fail
  rw [← hW0]
  clear hW0
  refine K.mono ?_
  rintro e w1 ⟨hb, ⟨_, rfl, hx⟩ | ⟨hn, _⟩⟩
  rotate_left
  · exact absurd HC.out hn
  obtain ⟨cb, hcb⟩ : ∃ cb, cb = W0.heap.size := ⟨_, rfl⟩
  rw [← hcb] at hx ⊢
  obtain ⟨cx, hcx⟩ : ∃ cx, cx = w1.heap.size := ⟨_, rfl⟩
  have BW1 := BA.out.trans (hb.mono BA.out.size)
  have hcx2 : w.heap.size + 1 + 1 < cx := by rw [hcx]; exact blk_lt (blk_below X.out.2.2 hb)
  obtain ⟨W2, hW2⟩ : ∃ W2, W2 = w1.alloc (.cells #[.pointer (some ⟨cb, 0, none⟩)] 99) := ⟨_, rfl⟩
  have J2 : Aside0 (JB w cb cx b 0 false W2) := ⟨by rw [hW2]; exact ⟨blk_alloc (blk_below X.out.1 hb) _, blk_alloc (blk_below X.out.2.1 hb) _, blk_alloc (blk_below X.out.2.2 hb) _, by rw [hcx]; exact blk_new w1 _, BW1.alloc BW1.size _, hcx2⟩⟩
  have C2 : Aside0 (Ctx l cb W2) := ⟨by rw [hW2]; exact hx.below ((Below.refl _ _).alloc (Nat.le_refl _) _)⟩
  clear hb hx K hcb BW1 hcx2 X BA
  go_wp2_with fail
  rw [← hW2]
  rw [← hcx]
  clear hW2 hcx
  have z3 : W2.cell? ⟨cx, 0, none⟩ = some (.pointer (some ⟨cb, 0, none⟩)) := (blk_cell J2.out.b3 0).trans rfl
  have z0 : W2.cell? ⟨w.heap.size, 0, none⟩ = some (.int .i64 b) := (blk_cell J2.out.b0 0).trans rfl
  by_cases ha : isM l a = true
  rotate_left
  · have NO : Aside0 (¬ (isM l a = true ∧ isM l b = true ∧ topM l a = topM l b)) := ⟨fun h => ha h.1⟩
    have fa : isM l a = false := by simpa using ha
    have KA : Aside0 (∀ W, Ctx l cb W → Calls Tryd.prog 57 #[.pointer (some ⟨cb, 0, none⟩), .int .i64 a] W fun e w' => e = .returned (.bool false) ∧ w' = W) := ⟨fun W h => by have := sis_calls l cb a W h; rw [fa] at this; exact this⟩
    clear ha fa
    refine start_ (n := 23) (S := fun w' => w'.cell? ⟨cx, 0, none⟩ = some (.pointer (some ⟨cb, 0, none⟩)) ∧ w'.cell? ⟨w.heap.size, 0, none⟩ = some (.int .i64 b)) (ds := []) #[false, false, false, false, false, false, false, false, false, false, false, false, false, false, false, false, false, false, false, false, false, false, false] (by kernel_rfl) rfl rfl ⟨z3, z0⟩ (fun hHeld => ?_)
    have C5 : Aside0 (Ctx l cb W2.drew) := ⟨C2.out.below ⟨rfl, rfl, rfl, Nat.le_refl _, fun _ _ => rfl⟩⟩
    have J5 : Aside0 (JB w cb cx b 0 false W2.drew) := ⟨J2.out.drew⟩
    replace z3 : W2.drew.cell? _ = _ := z3
    replace z0 : W2.drew.cell? _ = _ := z0
    clear C2 J2
    generalize W2.drew = w5 at C5 J5 z3 z0 hHeld ⊢
    refine pure_ (i := 0) (N := some 16) (v := ?_) (a' := ?_) #[true, false, false, false, false, false, false, false, false, false, false, false, false, false, false, false, false, false, false, false, false, false, false] rfl rfl (by kernel_rfl) (fun _ _ _ h => h) (Or.inl ⟨by rfl, ?_⟩) ?_ ?_
    rotate_left
    · intro w'
      go_simp
      with_reducible rfl
    rotate_left
    · simp only [Act.put, List.setIfInBounds_toArray, List.set_cons_zero, List.set_cons_succ, i64_w, i32_w]
      rfl
    refine pure_ (i := 1) (N := some 17) (v := ?_) (a' := ?_) #[true, true, false, false, false, false, false, false, false, false, false, false, false, false, false, false, false, false, false, false, false, false, false] rfl rfl (by kernel_rfl) (fun _ _ _ h => h) (Or.inl ⟨by rfl, ?_⟩) ?_ ?_
    rotate_left
    · intro w'
      go_simp
      with_reducible rfl
    rotate_left
    · simp only [Act.put, List.setIfInBounds_toArray, List.set_cons_zero, List.set_cons_succ, i64_w, i32_w]
      rfl
    refine pure_ (i := 2) (N := some 18) (v := ?_) (a' := ?_) #[true, true, true, false, false, false, false, false, false, false, false, false, false, false, false, false, false, false, false, false, false, false, false] rfl rfl (by kernel_rfl) (fun _ _ _ h => h) (Or.inl ⟨by rfl, ?_⟩) ?_ ?_
    rotate_left
    · intro w'
      go_simp
      with_reducible rfl
    rotate_left
    · simp only [Act.put, List.setIfInBounds_toArray, List.set_cons_zero, List.set_cons_succ, i64_w, i32_w]
      rfl
    refine pure_ (i := 4) (N := some 20) (v := ?_) (a' := ?_) #[true, true, true, false, true, false, false, false, false, false, false, false, false, false, false, false, false, false, false, false, false, false, false] rfl rfl (by kernel_rfl) (fun _ _ _ h => h) (Or.inl ⟨by rfl, ?_⟩) ?_ ?_
    rotate_left
    · intro w'
      go_simp
      with_reducible rfl
    rotate_left
    · simp only [Act.put, List.setIfInBounds_toArray, List.set_cons_zero, List.set_cons_succ, i64_w, i32_w]
      rfl
    refine take_ (i := 3) (N := some 19) (v := ?_) (a' := ?_) #[true, true, true, true, true, false, false, false, false, false, false, false, false, false, false, false, false, false, false, false, false, false, false] rfl rfl (by kernel_rfl) (fun _ _ _ h => h) (Or.inl ⟨by rfl, ?_⟩) hHeld ?_ ?_
    rotate_left
    · rintro w' ⟨s0, s1⟩
      go_simp
      with_reducible rfl
    rotate_left
    · simp only [Act.put, List.setIfInBounds_toArray, List.set_cons_zero, List.set_cons_succ, i64_w, i32_w]
      rfl
    refine one_ (i := 5) (N := some 21) #[true, true, true, true, true, true, false, false, false, false, false, false, false, false, false, false, false, false, false, false, false, false, false] rfl rfl (by kernel_rfl) (by decide) (fun K hK => ?_)
    refine goes_ Tryd.func57 (by kernel_rfl) rfl #[.pointer (some ⟨cb, 0, none⟩), .int .i64 a] (by rfl) rfl rfl (by simp only [List.map_toArray, List.map_cons, List.map_nil]; rfl) ?_
    with_reducible refine (KA.out w5 C5.out).mono ?_
    rintro e w6 ⟨rfl, rfl⟩
    refine ⟨_, rfl, ?_⟩
    refine hK.out _ _ ⟨z3, z0⟩ (fun hHeld => ?_)
    clear hK K
    refine norm_ (a' := ?_) ?_ ?_
    rotate_left
    · show Act.put _ (some 21) _ = _
      simp only [Act.put, List.setIfInBounds_toArray, List.set_cons_zero, List.set_cons_succ, i64_w, i32_w]
      rfl
    refine pure_ (i := 6) (N := some 22) (v := ?_) (a' := ?_) #[true, true, true, true, true, true, true, false, false, false, false, false, false, false, false, false, false, false, false, false, false, false, false] rfl rfl (by kernel_rfl) (fun _ _ _ h => h) (Or.inl ⟨by rfl, ?_⟩) ?_ ?_
    rotate_left
    · intro w'
      go_simp
      with_reducible rfl
    rotate_left
    · simp only [Act.put, List.setIfInBounds_toArray, List.set_cons_zero, List.set_cons_succ, i64_w, i32_w]
      rfl
    refine pure_ (i := 7) (N := some 23) (v := ?_) (a' := ?_) #[true, true, true, true, true, true, true, true, false, false, false, false, false, false, false, false, false, false, false, false, false, false, false] rfl rfl (by kernel_rfl) (fun _ _ _ h => h) (Or.inl ⟨by rfl, ?_⟩) ?_ ?_
    rotate_left
    · intro w'
      go_simp
      with_reducible rfl
    rotate_left
    · simp only [Act.put, List.setIfInBounds_toArray, List.set_cons_zero, List.set_cons_succ, i64_w, i32_w]
      rfl
    refine pure_ (i := 8) (N := some 24) (v := ?_) (a' := ?_) #[true, true, true, true, true, true, true, true, true, false, false, false, false, false, false, false, false, false, false, false, false, false, false] rfl rfl (by kernel_rfl) (fun _ _ _ h => h) (Or.inl ⟨by rfl, ?_⟩) ?_ ?_
    rotate_left
    · intro w'
      go_simp
      with_reducible rfl
    rotate_left
    · simp only [Act.put, List.setIfInBounds_toArray, List.set_cons_zero, List.set_cons_succ, i64_w, i32_w]
      rfl
    refine pure_ (i := 9) (N := some 25) (v := undef) (a' := ?_) #[true, true, true, true, true, true, true, true, true, true, false, false, false, false, false, false, false, false, false, false, false, false, false] rfl rfl (by kernel_rfl) (fun _ _ _ h => h) (Or.inr ⟨by rfl, rfl⟩) ?_ ?_
    rotate_left
    · simp only [Act.put, List.setIfInBounds_toArray, List.set_cons_zero, List.set_cons_succ, i64_w, i32_w]
      rfl
    refine pure_ (i := 10) (N := some 26) (v := undef) (a' := ?_) #[true, true, true, true, true, true, true, true, true, true, true, false, false, false, false, false, false, false, false, false, false, false, false] rfl rfl (by kernel_rfl) (fun _ _ _ h => h) (Or.inr ⟨by rfl, rfl⟩) ?_ ?_
    rotate_left
    · simp only [Act.put, List.setIfInBounds_toArray, List.set_cons_zero, List.set_cons_succ, i64_w, i32_w]
      rfl
    refine pure_ (i := 11) (N := some 27) (v := undef) (a' := ?_) #[true, true, true, true, true, true, true, true, true, true, true, true, false, false, false, false, false, false, false, false, false, false, false] rfl rfl (by kernel_rfl) (fun _ _ _ h => h) (Or.inr ⟨by rfl, rfl⟩) ?_ ?_
    rotate_left
    · simp only [Act.put, List.setIfInBounds_toArray, List.set_cons_zero, List.set_cons_succ, i64_w, i32_w]
      rfl
    refine pure_ (i := 12) (N := some 28) (v := undef) (a' := ?_) #[true, true, true, true, true, true, true, true, true, true, true, true, true, false, false, false, false, false, false, false, false, false, false] rfl rfl (by kernel_rfl) (fun _ _ _ h => h) (Or.inr ⟨by rfl, rfl⟩) ?_ ?_
    rotate_left
    · simp only [Act.put, List.setIfInBounds_toArray, List.set_cons_zero, List.set_cons_succ, i64_w, i32_w]
      rfl
    refine pure_ (i := 13) (N := some 29) (v := ?_) (a' := ?_) #[true, true, true, true, true, true, true, true, true, true, true, true, true, true, false, false, false, false, false, false, false, false, false] rfl rfl (by kernel_rfl) (fun _ _ _ h => h) (Or.inl ⟨by rfl, ?_⟩) ?_ ?_
    rotate_left
    · intro w'
      go_simp
      with_reducible rfl
    rotate_left
    · simp only [Act.put, List.setIfInBounds_toArray, List.set_cons_zero, List.set_cons_succ, i64_w, i32_w]
      rfl
    refine pure_ (i := 14) (N := some 30) (v := ?_) (a' := ?_) #[true, true, true, true, true, true, true, true, true, true, true, true, true, true, true, false, false, false, false, false, false, false, false] rfl rfl (by kernel_rfl) (fun _ _ _ h => h) (Or.inl ⟨by rfl, ?_⟩) ?_ ?_
    rotate_left
    · intro w'
      go_simp
      with_reducible rfl
    rotate_left
    · simp only [Act.put, List.setIfInBounds_toArray, List.set_cons_zero, List.set_cons_succ, i64_w, i32_w]
      rfl
    refine pure_ (i := 15) (N := some 31) (v := undef) (a' := ?_) #[true, true, true, true, true, true, true, true, true, true, true, true, true, true, true, true, false, false, false, false, false, false, false] rfl rfl (by kernel_rfl) (fun _ _ _ h => h) (Or.inr ⟨by rfl, rfl⟩) ?_ ?_
    rotate_left
    · simp only [Act.put, List.setIfInBounds_toArray, List.set_cons_zero, List.set_cons_succ, i64_w, i32_w]
      rfl
    refine pure_ (i := 16) (N := some 32) (v := undef) (a' := ?_) #[true, true, true, true, true, true, true, true, true, true, true, true, true, true, true, true, true, false, false, false, false, false, false] rfl rfl (by kernel_rfl) (fun _ _ _ h => h) (Or.inr ⟨by rfl, rfl⟩) ?_ ?_
    rotate_left
    · simp only [Act.put, List.setIfInBounds_toArray, List.set_cons_zero, List.set_cons_succ, i64_w, i32_w]
      rfl
    refine pure_ (i := 17) (N := some 33) (v := undef) (a' := ?_) #[true, true, true, true, true, true, true, true, true, true, true, true, true, true, true, true, true, true, false, false, false, false, false] rfl rfl (by kernel_rfl) (fun _ _ _ h => h) (Or.inr ⟨by rfl, rfl⟩) ?_ ?_
    rotate_left
    · simp only [Act.put, List.setIfInBounds_toArray, List.set_cons_zero, List.set_cons_succ, i64_w, i32_w]
      rfl
    refine pure_ (i := 18) (N := some 34) (v := undef) (a' := ?_) #[true, true, true, true, true, true, true, true, true, true, true, true, true, true, true, true, true, true, true, false, false, false, false] rfl rfl (by kernel_rfl) (fun _ _ _ h => h) (Or.inr ⟨by rfl, rfl⟩) ?_ ?_
    rotate_left
    · simp only [Act.put, List.setIfInBounds_toArray, List.set_cons_zero, List.set_cons_succ, i64_w, i32_w]
      rfl
    refine pure_ (i := 19) (N := some 35) (v := undef) (a' := ?_) #[true, true, true, true, true, true, true, true, true, true, true, true, true, true, true, true, true, true, true, true, false, false, false] rfl rfl (by kernel_rfl) (fun _ _ _ h => h) (Or.inr ⟨by rfl, rfl⟩) ?_ ?_
    rotate_left
    · simp only [Act.put, List.setIfInBounds_toArray, List.set_cons_zero, List.set_cons_succ, i64_w, i32_w]
      rfl
    refine pure_ (i := 20) (N := some 36) (v := undef) (a' := ?_) #[true, true, true, true, true, true, true, true, true, true, true, true, true, true, true, true, true, true, true, true, true, false, false] rfl rfl (by kernel_rfl) (fun _ _ _ h => h) (Or.inr ⟨by rfl, rfl⟩) ?_ ?_
    rotate_left
    · simp only [Act.put, List.setIfInBounds_toArray, List.set_cons_zero, List.set_cons_succ, i64_w, i32_w]
      rfl
    refine pure_ (i := 21) (N := some 37) (v := undef) (a' := ?_) #[true, true, true, true, true, true, true, true, true, true, true, true, true, true, true, true, true, true, true, true, true, true, false] rfl rfl (by kernel_rfl) (fun _ _ _ h => h) (Or.inr ⟨by rfl, rfl⟩) ?_ ?_
    rotate_left
    · simp only [Act.put, List.setIfInBounds_toArray, List.set_cons_zero, List.set_cons_succ, i64_w, i32_w]
      rfl
    refine pure_ (i := 22) (N := some 38) (v := ?_) (a' := ?_) #[true, true, true, true, true, true, true, true, true, true, true, true, true, true, true, true, true, true, true, true, true, true, true] rfl rfl (by kernel_rfl) (fun _ _ _ h => h) (Or.inl ⟨by rfl, ?_⟩) ?_ ?_
    rotate_left
    · intro w'
      go_simp
      with_reducible rfl
    rotate_left
    · simp only [Act.put, List.setIfInBounds_toArray, List.set_cons_zero, List.set_cons_succ, i64_w, i32_w]
      rfl
    refine done_ (by kernel_rfl) ?_
    have z1 : w6.cell? ⟨w.heap.size + 1, 0, none⟩ = some (.int .i64 0) := (blk_cell J5.out.b1 0).trans rfl
    have z2 : w6.cell? ⟨w.heap.size + 1 + 1, 0, none⟩ = some (.bool false) := (blk_cell J5.out.b2 0).trans rfl
    have f1 : w6.frozen? ⟨w.heap.size + 1, 0, none⟩ = false := blk_frozen J5.out.b1 0
    have f2 : (w6.setCell ⟨w.heap.size + 1, 0, none⟩ (.int .i64 0)).frozen? ⟨w.heap.size + 1 + 1, 0, none⟩ = false := blk_frozen (J5.out.st1 0).b2 0
    go_wp2_with fail
    refine bodyPost_ret (v := .tuple #[.int .i64 0, .bool false]) ?_ rfl ?_
    · exact ((J5.out.st1 0).st2 false).fin rfl rfl
    · exact ⟨0, false, rfl, .inl ⟨rfl, NO.out⟩, ((J5.out.st1 0).st2 false).bel⟩
  by_cases hb : isM l b = true
  rotate_left
  · have NO : Aside0 (¬ (isM l a = true ∧ isM l b = true ∧ topM l a = topM l b)) := ⟨fun h => hb h.2.1⟩
    have fb : isM l b = false := by simpa using hb
    have KA : Aside0 (∀ W, Ctx l cb W → Calls Tryd.prog 57 #[.pointer (some ⟨cb, 0, none⟩), .int .i64 a] W fun e w' => e = .returned (.bool true) ∧ w' = W) := ⟨fun W h => by have := sis_calls l cb a W h; rw [ha] at this; exact this⟩
    have KB : Aside0 (∀ W, Ctx l cb W → Calls Tryd.prog 57 #[.pointer (some ⟨cb, 0, none⟩), .int .i64 b] W fun e w' => e = .returned (.bool false) ∧ w' = W) := ⟨fun W h => by have := sis_calls l cb b W h; rw [fb] at this; exact this⟩
    clear ha hb fb
    refine start_ (n := 23) (S := fun w' => w'.cell? ⟨cx, 0, none⟩ = some (.pointer (some ⟨cb, 0, none⟩)) ∧ w'.cell? ⟨w.heap.size, 0, none⟩ = some (.int .i64 b)) (ds := []) #[false, false, false, false, false, false, false, false, false, false, false, false, false, false, false, false, false, false, false, false, false, false, false] (by kernel_rfl) rfl rfl ⟨z3, z0⟩ (fun hHeld => ?_)
    have C5 : Aside0 (Ctx l cb W2.drew) := ⟨C2.out.below ⟨rfl, rfl, rfl, Nat.le_refl _, fun _ _ => rfl⟩⟩
    have J5 : Aside0 (JB w cb cx b 0 false W2.drew) := ⟨J2.out.drew⟩
    replace z3 : W2.drew.cell? _ = _ := z3
    replace z0 : W2.drew.cell? _ = _ := z0
    clear C2 J2
    generalize W2.drew = w5 at C5 J5 z3 z0 hHeld ⊢
    refine pure_ (i := 0) (N := some 16) (v := ?_) (a' := ?_) #[true, false, false, false, false, false, false, false, false, false, false, false, false, false, false, false, false, false, false, false, false, false, false] rfl rfl (by kernel_rfl) (fun _ _ _ h => h) (Or.inl ⟨by rfl, ?_⟩) ?_ ?_
    rotate_left
    · intro w'
      go_simp
      with_reducible rfl
    rotate_left
    · simp only [Act.put, List.setIfInBounds_toArray, List.set_cons_zero, List.set_cons_succ, i64_w, i32_w]
      rfl
    refine pure_ (i := 1) (N := some 17) (v := ?_) (a' := ?_) #[true, true, false, false, false, false, false, false, false, false, false, false, false, false, false, false, false, false, false, false, false, false, false] rfl rfl (by kernel_rfl) (fun _ _ _ h => h) (Or.inl ⟨by rfl, ?_⟩) ?_ ?_
    rotate_left
    · intro w'
      go_simp
      with_reducible rfl
    rotate_left
    · simp only [Act.put, List.setIfInBounds_toArray, List.set_cons_zero, List.set_cons_succ, i64_w, i32_w]
      rfl
    refine pure_ (i := 2) (N := some 18) (v := ?_) (a' := ?_) #[true, true, true, false, false, false, false, false, false, false, false, false, false, false, false, false, false, false, false, false, false, false, false] rfl rfl (by kernel_rfl) (fun _ _ _ h => h) (Or.inl ⟨by rfl, ?_⟩) ?_ ?_
    rotate_left
    · intro w'
      go_simp
      with_reducible rfl
    rotate_left
    · simp only [Act.put, List.setIfInBounds_toArray, List.set_cons_zero, List.set_cons_succ, i64_w, i32_w]
      rfl
    refine pure_ (i := 4) (N := some 20) (v := ?_) (a' := ?_) #[true, true, true, false, true, false, false, false, false, false, false, false, false, false, false, false, false, false, false, false, false, false, false] rfl rfl (by kernel_rfl) (fun _ _ _ h => h) (Or.inl ⟨by rfl, ?_⟩) ?_ ?_
    rotate_left
    · intro w'
      go_simp
      with_reducible rfl
    rotate_left
    · simp only [Act.put, List.setIfInBounds_toArray, List.set_cons_zero, List.set_cons_succ, i64_w, i32_w]
      rfl
    refine take_ (i := 3) (N := some 19) (v := ?_) (a' := ?_) #[true, true, true, true, true, false, false, false, false, false, false, false, false, false, false, false, false, false, false, false, false, false, false] rfl rfl (by kernel_rfl) (fun _ _ _ h => h) (Or.inl ⟨by rfl, ?_⟩) hHeld ?_ ?_
    rotate_left
    · rintro w' ⟨s0, s1⟩
      go_simp
      with_reducible rfl
    rotate_left
    · simp only [Act.put, List.setIfInBounds_toArray, List.set_cons_zero, List.set_cons_succ, i64_w, i32_w]
      rfl
    refine one_ (i := 5) (N := some 21) #[true, true, true, true, true, true, false, false, false, false, false, false, false, false, false, false, false, false, false, false, false, false, false] rfl rfl (by kernel_rfl) (by decide) (fun K hK => ?_)
    refine goes_ Tryd.func57 (by kernel_rfl) rfl #[.pointer (some ⟨cb, 0, none⟩), .int .i64 a] (by rfl) rfl rfl (by simp only [List.map_toArray, List.map_cons, List.map_nil]; rfl) ?_
    with_reducible refine (KA.out w5 C5.out).mono ?_
    rintro e w6 ⟨rfl, rfl⟩
    refine ⟨_, rfl, ?_⟩
    refine hK.out _ _ ⟨z3, z0⟩ (fun hHeld => ?_)
    clear hK K
    refine norm_ (a' := ?_) ?_ ?_
    rotate_left
    · show Act.put _ (some 21) _ = _
      simp only [Act.put, List.setIfInBounds_toArray, List.set_cons_zero, List.set_cons_succ, i64_w, i32_w]
      rfl
    refine pure_ (i := 6) (N := some 22) (v := ?_) (a' := ?_) #[true, true, true, true, true, true, true, false, false, false, false, false, false, false, false, false, false, false, false, false, false, false, false] rfl rfl (by kernel_rfl) (fun _ _ _ h => h) (Or.inl ⟨by rfl, ?_⟩) ?_ ?_
    rotate_left
    · intro w'
      go_simp
      with_reducible rfl
    rotate_left
    · simp only [Act.put, List.setIfInBounds_toArray, List.set_cons_zero, List.set_cons_succ, i64_w, i32_w]
      rfl
    refine pure_ (i := 7) (N := some 23) (v := ?_) (a' := ?_) #[true, true, true, true, true, true, true, true, false, false, false, false, false, false, false, false, false, false, false, false, false, false, false] rfl rfl (by kernel_rfl) (fun _ _ _ h => h) (Or.inl ⟨by rfl, ?_⟩) ?_ ?_
    rotate_left
    · intro w'
      go_simp
      with_reducible rfl
    rotate_left
    · simp only [Act.put, List.setIfInBounds_toArray, List.set_cons_zero, List.set_cons_succ, i64_w, i32_w]
      rfl
    refine pure_ (i := 8) (N := some 24) (v := ?_) (a' := ?_) #[true, true, true, true, true, true, true, true, true, false, false, false, false, false, false, false, false, false, false, false, false, false, false] rfl rfl (by kernel_rfl) (fun _ _ _ h => h) (Or.inl ⟨by rfl, ?_⟩) ?_ ?_
    rotate_left
    · intro w'
      go_simp
      with_reducible rfl
    rotate_left
    · simp only [Act.put, List.setIfInBounds_toArray, List.set_cons_zero, List.set_cons_succ, i64_w, i32_w]
      rfl
    refine take_ (i := 9) (N := some 25) (v := ?_) (a' := ?_) #[true, true, true, true, true, true, true, true, true, true, false, false, false, false, false, false, false, false, false, false, false, false, false] rfl rfl (by kernel_rfl) (fun _ _ _ h => h) (Or.inl ⟨by rfl, ?_⟩) hHeld ?_ ?_
    rotate_left
    · rintro w' ⟨s0, s1⟩
      go_simp
      with_reducible rfl
    rotate_left
    · simp only [Act.put, List.setIfInBounds_toArray, List.set_cons_zero, List.set_cons_succ, i64_w, i32_w]
      rfl
    refine take_ (i := 10) (N := some 26) (v := ?_) (a' := ?_) #[true, true, true, true, true, true, true, true, true, true, true, false, false, false, false, false, false, false, false, false, false, false, false] rfl rfl (by kernel_rfl) (fun _ _ _ h => h) (Or.inl ⟨by rfl, ?_⟩) hHeld ?_ ?_
    rotate_left
    · rintro w' ⟨s0, s1⟩
      go_simp
      with_reducible rfl
    rotate_left
    · simp only [Act.put, List.setIfInBounds_toArray, List.set_cons_zero, List.set_cons_succ, i64_w, i32_w]
      rfl
    refine one_ (i := 11) (N := some 27) #[true, true, true, true, true, true, true, true, true, true, true, true, false, false, false, false, false, false, false, false, false, false, false] rfl rfl (by kernel_rfl) (by decide) (fun K hK => ?_)
    refine goes_ Tryd.func57 (by kernel_rfl) rfl #[.pointer (some ⟨cb, 0, none⟩), .int .i64 b] (by rfl) rfl rfl (by simp only [List.map_toArray, List.map_cons, List.map_nil]; rfl) ?_
    with_reducible refine (KB.out w6 C5.out).mono ?_
    rintro e w7 ⟨rfl, rfl⟩
    refine ⟨_, rfl, ?_⟩
    refine hK.out _ _ ⟨z3, z0⟩ (fun hHeld => ?_)
    clear hK K
    refine norm_ (a' := ?_) ?_ ?_
    rotate_left
    · show Act.put _ (some 27) _ = _
      simp only [Act.put, List.setIfInBounds_toArray, List.set_cons_zero, List.set_cons_succ, i64_w, i32_w]
      rfl
    refine pure_ (i := 12) (N := some 28) (v := ?_) (a' := ?_) #[true, true, true, true, true, true, true, true, true, true, true, true, true, false, false, false, false, false, false, false, false, false, false] rfl rfl (by kernel_rfl) (fun _ _ _ h => h) (Or.inl ⟨by rfl, ?_⟩) ?_ ?_
    rotate_left
    · intro w'
      go_simp
      with_reducible rfl
    rotate_left
    · simp only [Act.put, List.setIfInBounds_toArray, List.set_cons_zero, List.set_cons_succ, i64_w, i32_w]
      rfl
    refine pure_ (i := 13) (N := some 29) (v := ?_) (a' := ?_) #[true, true, true, true, true, true, true, true, true, true, true, true, true, true, false, false, false, false, false, false, false, false, false] rfl rfl (by kernel_rfl) (fun _ _ _ h => h) (Or.inl ⟨by rfl, ?_⟩) ?_ ?_
    rotate_left
    · intro w'
      go_simp
      with_reducible rfl
    rotate_left
    · simp only [Act.put, List.setIfInBounds_toArray, List.set_cons_zero, List.set_cons_succ, i64_w, i32_w]
      rfl
    refine pure_ (i := 14) (N := some 30) (v := ?_) (a' := ?_) #[true, true, true, true, true, true, true, true, true, true, true, true, true, true, true, false, false, false, false, false, false, false, false] rfl rfl (by kernel_rfl) (fun _ _ _ h => h) (Or.inl ⟨by rfl, ?_⟩) ?_ ?_
    rotate_left
    · intro w'
      go_simp
      with_reducible rfl
    rotate_left
    · simp only [Act.put, List.setIfInBounds_toArray, List.set_cons_zero, List.set_cons_succ, i64_w, i32_w]
      rfl
    refine pure_ (i := 15) (N := some 31) (v := undef) (a' := ?_) #[true, true, true, true, true, true, true, true, true, true, true, true, true, true, true, true, false, false, false, false, false, false, false] rfl rfl (by kernel_rfl) (fun _ _ _ h => h) (Or.inr ⟨by rfl, rfl⟩) ?_ ?_
    rotate_left
    · simp only [Act.put, List.setIfInBounds_toArray, List.set_cons_zero, List.set_cons_succ, i64_w, i32_w]
      rfl
    refine pure_ (i := 16) (N := some 32) (v := undef) (a' := ?_) #[true, true, true, true, true, true, true, true, true, true, true, true, true, true, true, true, true, false, false, false, false, false, false] rfl rfl (by kernel_rfl) (fun _ _ _ h => h) (Or.inr ⟨by rfl, rfl⟩) ?_ ?_
    rotate_left
    · simp only [Act.put, List.setIfInBounds_toArray, List.set_cons_zero, List.set_cons_succ, i64_w, i32_w]
      rfl
    refine pure_ (i := 17) (N := some 33) (v := undef) (a' := ?_) #[true, true, true, true, true, true, true, true, true, true, true, true, true, true, true, true, true, true, false, false, false, false, false] rfl rfl (by kernel_rfl) (fun _ _ _ h => h) (Or.inr ⟨by rfl, rfl⟩) ?_ ?_
    rotate_left
    · simp only [Act.put, List.setIfInBounds_toArray, List.set_cons_zero, List.set_cons_succ, i64_w, i32_w]
      rfl
    refine pure_ (i := 18) (N := some 34) (v := undef) (a' := ?_) #[true, true, true, true, true, true, true, true, true, true, true, true, true, true, true, true, true, true, true, false, false, false, false] rfl rfl (by kernel_rfl) (fun _ _ _ h => h) (Or.inr ⟨by rfl, rfl⟩) ?_ ?_
    rotate_left
    · simp only [Act.put, List.setIfInBounds_toArray, List.set_cons_zero, List.set_cons_succ, i64_w, i32_w]
      rfl
    refine pure_ (i := 19) (N := some 35) (v := undef) (a' := ?_) #[true, true, true, true, true, true, true, true, true, true, true, true, true, true, true, true, true, true, true, true, false, false, false] rfl rfl (by kernel_rfl) (fun _ _ _ h => h) (Or.inr ⟨by rfl, rfl⟩) ?_ ?_
    rotate_left
    · simp only [Act.put, List.setIfInBounds_toArray, List.set_cons_zero, List.set_cons_succ, i64_w, i32_w]
      rfl
    refine pure_ (i := 20) (N := some 36) (v := undef) (a' := ?_) #[true, true, true, true, true, true, true, true, true, true, true, true, true, true, true, true, true, true, true, true, true, false, false] rfl rfl (by kernel_rfl) (fun _ _ _ h => h) (Or.inr ⟨by rfl, rfl⟩) ?_ ?_
    rotate_left
    · simp only [Act.put, List.setIfInBounds_toArray, List.set_cons_zero, List.set_cons_succ, i64_w, i32_w]
      rfl
    refine pure_ (i := 21) (N := some 37) (v := undef) (a' := ?_) #[true, true, true, true, true, true, true, true, true, true, true, true, true, true, true, true, true, true, true, true, true, true, false] rfl rfl (by kernel_rfl) (fun _ _ _ h => h) (Or.inr ⟨by rfl, rfl⟩) ?_ ?_
    rotate_left
    · simp only [Act.put, List.setIfInBounds_toArray, List.set_cons_zero, List.set_cons_succ, i64_w, i32_w]
      rfl
    refine pure_ (i := 22) (N := some 38) (v := ?_) (a' := ?_) #[true, true, true, true, true, true, true, true, true, true, true, true, true, true, true, true, true, true, true, true, true, true, true] rfl rfl (by kernel_rfl) (fun _ _ _ h => h) (Or.inl ⟨by rfl, ?_⟩) ?_ ?_
    rotate_left
    · intro w'
      go_simp
      with_reducible rfl
    rotate_left
    · simp only [Act.put, List.setIfInBounds_toArray, List.set_cons_zero, List.set_cons_succ, i64_w, i32_w]
      rfl
    refine done_ (by kernel_rfl) ?_
    have z1 : w7.cell? ⟨w.heap.size + 1, 0, none⟩ = some (.int .i64 0) := (blk_cell J5.out.b1 0).trans rfl
    have z2 : w7.cell? ⟨w.heap.size + 1 + 1, 0, none⟩ = some (.bool false) := (blk_cell J5.out.b2 0).trans rfl
    have f1 : w7.frozen? ⟨w.heap.size + 1, 0, none⟩ = false := blk_frozen J5.out.b1 0
    have f2 : (w7.setCell ⟨w.heap.size + 1, 0, none⟩ (.int .i64 0)).frozen? ⟨w.heap.size + 1 + 1, 0, none⟩ = false := blk_frozen (J5.out.st1 0).b2 0
    go_wp2_with fail
    refine bodyPost_ret (v := .tuple #[.int .i64 0, .bool false]) ?_ rfl ?_
    · exact ((J5.out.st1 0).st2 false).fin rfl rfl
    · exact ⟨0, false, rfl, .inl ⟨rfl, NO.out⟩, ((J5.out.st1 0).st2 false).bel⟩
  have KA : Aside0 (∀ W, Ctx l cb W → Calls Tryd.prog 57 #[.pointer (some ⟨cb, 0, none⟩), .int .i64 a] W fun e w' => e = .returned (.bool true) ∧ w' = W) := ⟨fun W h => by have := sis_calls l cb a W h; rw [ha] at this; exact this⟩
  have KB : Aside0 (∀ W, Ctx l cb W → Calls Tryd.prog 57 #[.pointer (some ⟨cb, 0, none⟩), .int .i64 b] W fun e w' => e = .returned (.bool true) ∧ w' = W) := ⟨fun W h => by have := sis_calls l cb b W h; rw [hb] at this; exact this⟩
  have KTA : Aside0 (∀ W, Ctx l cb W → Calls Tryd.prog 58 #[.pointer (some ⟨cb, 0, none⟩), .int .i64 a] W fun e w' => e = .returned (.int .i64 (topM l a)) ∧ w' = W) := ⟨fun W h => stop_calls l cb a W h ha⟩
  have KTB : Aside0 (∀ W, Ctx l cb W → Calls Tryd.prog 58 #[.pointer (some ⟨cb, 0, none⟩), .int .i64 b] W fun e w' => e = .returned (.int .i64 (topM l b)) ∧ w' = W) := ⟨fun W h => stop_calls l cb b W h hb⟩
  by_cases ht : topM l a = topM l b
  rotate_left
  · have NO : Aside0 (¬ (isM l a = true ∧ isM l b = true ∧ topM l a = topM l b)) := ⟨fun h => ht h.2.2⟩
    have et : (topM l a != topM l b) = true := by simp [ht]
    clear ha hb ht
    refine start_ (n := 23) (S := fun w' => w'.cell? ⟨cx, 0, none⟩ = some (.pointer (some ⟨cb, 0, none⟩)) ∧ w'.cell? ⟨w.heap.size, 0, none⟩ = some (.int .i64 b)) (ds := []) #[false, false, false, false, false, false, false, false, false, false, false, false, false, false, false, false, false, false, false, false, false, false, false] (by kernel_rfl) rfl rfl ⟨z3, z0⟩ (fun hHeld => ?_)
    have C5 : Aside0 (Ctx l cb W2.drew) := ⟨C2.out.below ⟨rfl, rfl, rfl, Nat.le_refl _, fun _ _ => rfl⟩⟩
    have J5 : Aside0 (JB w cb cx b 0 false W2.drew) := ⟨J2.out.drew⟩
    replace z3 : W2.drew.cell? _ = _ := z3
    replace z0 : W2.drew.cell? _ = _ := z0
    clear C2 J2
    generalize W2.drew = w5 at C5 J5 z3 z0 hHeld ⊢
    refine pure_ (i := 0) (N := some 16) (v := ?_) (a' := ?_) #[true, false, false, false, false, false, false, false, false, false, false, false, false, false, false, false, false, false, false, false, false, false, false] rfl rfl (by kernel_rfl) (fun _ _ _ h => h) (Or.inl ⟨by rfl, ?_⟩) ?_ ?_
    rotate_left
    · intro w'
      go_simp
      with_reducible rfl
    rotate_left
    · simp only [Act.put, List.setIfInBounds_toArray, List.set_cons_zero, List.set_cons_succ, i64_w, i32_w]
      rfl
    refine pure_ (i := 1) (N := some 17) (v := ?_) (a' := ?_) #[true, true, false, false, false, false, false, false, false, false, false, false, false, false, false, false, false, false, false, false, false, false, false] rfl rfl (by kernel_rfl) (fun _ _ _ h => h) (Or.inl ⟨by rfl, ?_⟩) ?_ ?_
    rotate_left
    · intro w'
      go_simp
      with_reducible rfl
    rotate_left
    · simp only [Act.put, List.setIfInBounds_toArray, List.set_cons_zero, List.set_cons_succ, i64_w, i32_w]
      rfl
    refine pure_ (i := 2) (N := some 18) (v := ?_) (a' := ?_) #[true, true, true, false, false, false, false, false, false, false, false, false, false, false, false, false, false, false, false, false, false, false, false] rfl rfl (by kernel_rfl) (fun _ _ _ h => h) (Or.inl ⟨by rfl, ?_⟩) ?_ ?_
    rotate_left
    · intro w'
      go_simp
      with_reducible rfl
    rotate_left
    · simp only [Act.put, List.setIfInBounds_toArray, List.set_cons_zero, List.set_cons_succ, i64_w, i32_w]
      rfl
    refine pure_ (i := 4) (N := some 20) (v := ?_) (a' := ?_) #[true, true, true, false, true, false, false, false, false, false, false, false, false, false, false, false, false, false, false, false, false, false, false] rfl rfl (by kernel_rfl) (fun _ _ _ h => h) (Or.inl ⟨by rfl, ?_⟩) ?_ ?_
    rotate_left
    · intro w'
      go_simp
      with_reducible rfl
    rotate_left
    · simp only [Act.put, List.setIfInBounds_toArray, List.set_cons_zero, List.set_cons_succ, i64_w, i32_w]
      rfl
    refine take_ (i := 3) (N := some 19) (v := ?_) (a' := ?_) #[true, true, true, true, true, false, false, false, false, false, false, false, false, false, false, false, false, false, false, false, false, false, false] rfl rfl (by kernel_rfl) (fun _ _ _ h => h) (Or.inl ⟨by rfl, ?_⟩) hHeld ?_ ?_
    rotate_left
    · rintro w' ⟨s0, s1⟩
      go_simp
      with_reducible rfl
    rotate_left
    · simp only [Act.put, List.setIfInBounds_toArray, List.set_cons_zero, List.set_cons_succ, i64_w, i32_w]
      rfl
    refine one_ (i := 5) (N := some 21) #[true, true, true, true, true, true, false, false, false, false, false, false, false, false, false, false, false, false, false, false, false, false, false] rfl rfl (by kernel_rfl) (by decide) (fun K hK => ?_)
    refine goes_ Tryd.func57 (by kernel_rfl) rfl #[.pointer (some ⟨cb, 0, none⟩), .int .i64 a] (by rfl) rfl rfl (by simp only [List.map_toArray, List.map_cons, List.map_nil]; rfl) ?_
    with_reducible refine (KA.out w5 C5.out).mono ?_
    rintro e w6 ⟨rfl, rfl⟩
    refine ⟨_, rfl, ?_⟩
    refine hK.out _ _ ⟨z3, z0⟩ (fun hHeld => ?_)
    clear hK K
    refine norm_ (a' := ?_) ?_ ?_
    rotate_left
    · show Act.put _ (some 21) _ = _
      simp only [Act.put, List.setIfInBounds_toArray, List.set_cons_zero, List.set_cons_succ, i64_w, i32_w]
      rfl
    refine pure_ (i := 6) (N := some 22) (v := ?_) (a' := ?_) #[true, true, true, true, true, true, true, false, false, false, false, false, false, false, false, false, false, false, false, false, false, false, false] rfl rfl (by kernel_rfl) (fun _ _ _ h => h) (Or.inl ⟨by rfl, ?_⟩) ?_ ?_
    rotate_left
    · intro w'
      go_simp
      with_reducible rfl
    rotate_left
    · simp only [Act.put, List.setIfInBounds_toArray, List.set_cons_zero, List.set_cons_succ, i64_w, i32_w]
      rfl
    refine pure_ (i := 7) (N := some 23) (v := ?_) (a' := ?_) #[true, true, true, true, true, true, true, true, false, false, false, false, false, false, false, false, false, false, false, false, false, false, false] rfl rfl (by kernel_rfl) (fun _ _ _ h => h) (Or.inl ⟨by rfl, ?_⟩) ?_ ?_
    rotate_left
    · intro w'
      go_simp
      with_reducible rfl
    rotate_left
    · simp only [Act.put, List.setIfInBounds_toArray, List.set_cons_zero, List.set_cons_succ, i64_w, i32_w]
      rfl
    refine pure_ (i := 8) (N := some 24) (v := ?_) (a' := ?_) #[true, true, true, true, true, true, true, true, true, false, false, false, false, false, false, false, false, false, false, false, false, false, false] rfl rfl (by kernel_rfl) (fun _ _ _ h => h) (Or.inl ⟨by rfl, ?_⟩) ?_ ?_
    rotate_left
    · intro w'
      go_simp
      with_reducible rfl
    rotate_left
    · simp only [Act.put, List.setIfInBounds_toArray, List.set_cons_zero, List.set_cons_succ, i64_w, i32_w]
      rfl
    refine take_ (i := 9) (N := some 25) (v := ?_) (a' := ?_) #[true, true, true, true, true, true, true, true, true, true, false, false, false, false, false, false, false, false, false, false, false, false, false] rfl rfl (by kernel_rfl) (fun _ _ _ h => h) (Or.inl ⟨by rfl, ?_⟩) hHeld ?_ ?_
    rotate_left
    · rintro w' ⟨s0, s1⟩
      go_simp
      with_reducible rfl
    rotate_left
    · simp only [Act.put, List.setIfInBounds_toArray, List.set_cons_zero, List.set_cons_succ, i64_w, i32_w]
      rfl
    refine take_ (i := 10) (N := some 26) (v := ?_) (a' := ?_) #[true, true, true, true, true, true, true, true, true, true, true, false, false, false, false, false, false, false, false, false, false, false, false] rfl rfl (by kernel_rfl) (fun _ _ _ h => h) (Or.inl ⟨by rfl, ?_⟩) hHeld ?_ ?_
    rotate_left
    · rintro w' ⟨s0, s1⟩
      go_simp
      with_reducible rfl
    rotate_left
    · simp only [Act.put, List.setIfInBounds_toArray, List.set_cons_zero, List.set_cons_succ, i64_w, i32_w]
      rfl
    refine one_ (i := 11) (N := some 27) #[true, true, true, true, true, true, true, true, true, true, true, true, false, false, false, false, false, false, false, false, false, false, false] rfl rfl (by kernel_rfl) (by decide) (fun K hK => ?_)
    refine goes_ Tryd.func57 (by kernel_rfl) rfl #[.pointer (some ⟨cb, 0, none⟩), .int .i64 b] (by rfl) rfl rfl (by simp only [List.map_toArray, List.map_cons, List.map_nil]; rfl) ?_
    with_reducible refine (KB.out w6 C5.out).mono ?_
    rintro e w7 ⟨rfl, rfl⟩
    refine ⟨_, rfl, ?_⟩
    refine hK.out _ _ ⟨z3, z0⟩ (fun hHeld => ?_)
    clear hK K
    refine norm_ (a' := ?_) ?_ ?_
    rotate_left
    · show Act.put _ (some 27) _ = _
      simp only [Act.put, List.setIfInBounds_toArray, List.set_cons_zero, List.set_cons_succ, i64_w, i32_w]
      rfl
    refine pure_ (i := 12) (N := some 28) (v := ?_) (a' := ?_) #[true, true, true, true, true, true, true, true, true, true, true, true, true, false, false, false, false, false, false, false, false, false, false] rfl rfl (by kernel_rfl) (fun _ _ _ h => h) (Or.inl ⟨by rfl, ?_⟩) ?_ ?_
    rotate_left
    · intro w'
      go_simp
      with_reducible rfl
    rotate_left
    · simp only [Act.put, List.setIfInBounds_toArray, List.set_cons_zero, List.set_cons_succ, i64_w, i32_w]
      rfl
    refine pure_ (i := 13) (N := some 29) (v := ?_) (a' := ?_) #[true, true, true, true, true, true, true, true, true, true, true, true, true, true, false, false, false, false, false, false, false, false, false] rfl rfl (by kernel_rfl) (fun _ _ _ h => h) (Or.inl ⟨by rfl, ?_⟩) ?_ ?_
    rotate_left
    · intro w'
      go_simp
      with_reducible rfl
    rotate_left
    · simp only [Act.put, List.setIfInBounds_toArray, List.set_cons_zero, List.set_cons_succ, i64_w, i32_w]
      rfl
    refine pure_ (i := 14) (N := some 30) (v := ?_) (a' := ?_) #[true, true, true, true, true, true, true, true, true, true, true, true, true, true, true, false, false, false, false, false, false, false, false] rfl rfl (by kernel_rfl) (fun _ _ _ h => h) (Or.inl ⟨by rfl, ?_⟩) ?_ ?_
    rotate_left
    · intro w'
      go_simp
      with_reducible rfl
    rotate_left
    · simp only [Act.put, List.setIfInBounds_toArray, List.set_cons_zero, List.set_cons_succ, i64_w, i32_w]
      rfl
    refine pure_ (i := 16) (N := some 32) (v := ?_) (a' := ?_) #[true, true, true, true, true, true, true, true, true, true, true, true, true, true, true, false, true, false, false, false, false, false, false] rfl rfl (by kernel_rfl) (fun _ _ _ h => h) (Or.inl ⟨by rfl, ?_⟩) ?_ ?_
    rotate_left
    · intro w'
      go_simp
      with_reducible rfl
    rotate_left
    · simp only [Act.put, List.setIfInBounds_toArray, List.set_cons_zero, List.set_cons_succ, i64_w, i32_w]
      rfl
    refine take_ (i := 15) (N := some 31) (v := ?_) (a' := ?_) #[true, true, true, true, true, true, true, true, true, true, true, true, true, true, true, true, true, false, false, false, false, false, false] rfl rfl (by kernel_rfl) (fun _ _ _ h => h) (Or.inl ⟨by rfl, ?_⟩) hHeld ?_ ?_
    rotate_left
    · rintro w' ⟨s0, s1⟩
      go_simp
      with_reducible rfl
    rotate_left
    · simp only [Act.put, List.setIfInBounds_toArray, List.set_cons_zero, List.set_cons_succ, i64_w, i32_w]
      rfl
    refine take_ (i := 18) (N := some 34) (v := ?_) (a' := ?_) #[true, true, true, true, true, true, true, true, true, true, true, true, true, true, true, true, true, false, true, false, false, false, false] rfl rfl (by kernel_rfl) (fun _ _ _ h => h) (Or.inl ⟨by rfl, ?_⟩) hHeld ?_ ?_
    rotate_left
    · rintro w' ⟨s0, s1⟩
      go_simp
      with_reducible rfl
    rotate_left
    · simp only [Act.put, List.setIfInBounds_toArray, List.set_cons_zero, List.set_cons_succ, i64_w, i32_w]
      rfl
    refine take_ (i := 19) (N := some 35) (v := ?_) (a' := ?_) #[true, true, true, true, true, true, true, true, true, true, true, true, true, true, true, true, true, false, true, true, false, false, false] rfl rfl (by kernel_rfl) (fun _ _ _ h => h) (Or.inl ⟨by rfl, ?_⟩) hHeld ?_ ?_
    rotate_left
    · rintro w' ⟨s0, s1⟩
      go_simp
      with_reducible rfl
    rotate_left
    · simp only [Act.put, List.setIfInBounds_toArray, List.set_cons_zero, List.set_cons_succ, i64_w, i32_w]
      rfl
    refine one_ (i := 17) (N := some 33) #[true, true, true, true, true, true, true, true, true, true, true, true, true, true, true, true, true, true, true, true, false, false, false] rfl rfl (by kernel_rfl) (by decide) (fun K hK => ?_)
    refine goes_ Tryd.func58 (by kernel_rfl) rfl #[.pointer (some ⟨cb, 0, none⟩), .int .i64 a] (by rfl) rfl rfl (by simp only [List.map_toArray, List.map_cons, List.map_nil]; rfl) ?_
    with_reducible refine (KTA.out w7 C5.out).mono ?_
    rintro e w8 ⟨rfl, rfl⟩
    refine ⟨_, rfl, ?_⟩
    refine hK.out _ _ ⟨z3, z0⟩ (fun hHeld => ?_)
    clear hK K
    refine norm_ (a' := ?_) ?_ ?_
    rotate_left
    · show Act.put _ (some 33) _ = _
      simp only [Act.put, List.setIfInBounds_toArray, List.set_cons_zero, List.set_cons_succ, i64_w, i32_w]
      rfl
    refine one_ (i := 20) (N := some 36) #[true, true, true, true, true, true, true, true, true, true, true, true, true, true, true, true, true, true, true, true, true, false, false] rfl rfl (by kernel_rfl) (by decide) (fun K hK => ?_)
    refine goes_ Tryd.func58 (by kernel_rfl) rfl #[.pointer (some ⟨cb, 0, none⟩), .int .i64 b] (by rfl) rfl rfl (by simp only [List.map_toArray, List.map_cons, List.map_nil]; rfl) ?_
    with_reducible refine (KTB.out w8 C5.out).mono ?_
    rintro e w9 ⟨rfl, rfl⟩
    refine ⟨_, rfl, ?_⟩
    refine hK.out _ _ ⟨z3, z0⟩ (fun hHeld => ?_)
    clear hK K
    refine norm_ (a' := ?_) ?_ ?_
    rotate_left
    · show Act.put _ (some 36) _ = _
      simp only [Act.put, List.setIfInBounds_toArray, List.set_cons_zero, List.set_cons_succ, i64_w, i32_w]
      rfl
    refine pure_ (i := 21) (N := some 37) (v := ?_) (a' := ?_) #[true, true, true, true, true, true, true, true, true, true, true, true, true, true, true, true, true, true, true, true, true, true, false] rfl rfl (by kernel_rfl) (fun _ _ _ h => h) (Or.inl ⟨by rfl, ?_⟩) ?_ ?_
    rotate_left
    · intro w'
      go_simp
      with_reducible rfl
    rotate_left
    · simp only [Act.put, List.setIfInBounds_toArray, List.set_cons_zero, List.set_cons_succ, i64_w, i32_w]
      rfl
    refine pure_ (i := 22) (N := some 38) (v := ?_) (a' := ?_) #[true, true, true, true, true, true, true, true, true, true, true, true, true, true, true, true, true, true, true, true, true, true, true] rfl rfl (by kernel_rfl) (fun _ _ _ h => h) (Or.inl ⟨by rfl, ?_⟩) ?_ ?_
    rotate_left
    · intro w'
      go_simp
      with_reducible rfl
    rotate_left
    · simp only [Act.put, List.setIfInBounds_toArray, List.set_cons_zero, List.set_cons_succ, i64_w, i32_w]
      rfl
    refine done_ (by kernel_rfl) ?_
    have z1 : w9.cell? ⟨w.heap.size + 1, 0, none⟩ = some (.int .i64 0) := (blk_cell J5.out.b1 0).trans rfl
    have z2 : w9.cell? ⟨w.heap.size + 1 + 1, 0, none⟩ = some (.bool false) := (blk_cell J5.out.b2 0).trans rfl
    have f1 : w9.frozen? ⟨w.heap.size + 1, 0, none⟩ = false := blk_frozen J5.out.b1 0
    have f2 : (w9.setCell ⟨w.heap.size + 1, 0, none⟩ (.int .i64 0)).frozen? ⟨w.heap.size + 1 + 1, 0, none⟩ = false := blk_frozen (J5.out.st1 0).b2 0
    go_wp2_with fail
    refine bodyPost_ret (v := .tuple #[.int .i64 0, .bool false]) ?_ rfl ?_
    · exact ((J5.out.st1 0).st2 false).fin rfl rfl
    · exact ⟨0, false, rfl, .inl ⟨rfl, NO.out⟩, ((J5.out.st1 0).st2 false).bel⟩
  have YES := Aside0.mk (And.intro ha (And.intro hb ht))
  have hsg : ¬ (0 ≤ a ∧ 0 ≤ b) := fun h => HNO.out ⟨YES.out, h⟩
  have et : (topM l a != topM l b) = false := by simp [ht]
  have SG := Aside0.mk hsg
  clear ha hb ht
  refine start_ (n := 23) (S := fun w' => w'.cell? ⟨cx, 0, none⟩ = some (.pointer (some ⟨cb, 0, none⟩)) ∧ w'.cell? ⟨w.heap.size, 0, none⟩ = some (.int .i64 b)) (ds := []) #[false, false, false, false, false, false, false, false, false, false, false, false, false, false, false, false, false, false, false, false, false, false, false] (by kernel_rfl) rfl rfl ⟨z3, z0⟩ (fun hHeld => ?_)
  have C5 : Aside0 (Ctx l cb W2.drew) := ⟨C2.out.below ⟨rfl, rfl, rfl, Nat.le_refl _, fun _ _ => rfl⟩⟩
  have J5 : Aside0 (JB w cb cx b 0 false W2.drew) := ⟨J2.out.drew⟩
  replace z3 : W2.drew.cell? _ = _ := z3
  replace z0 : W2.drew.cell? _ = _ := z0
  clear C2 J2
  generalize W2.drew = w5 at C5 J5 z3 z0 hHeld ⊢
  refine pure_ (i := 0) (N := some 16) (v := ?_) (a' := ?_) #[true, false, false, false, false, false, false, false, false, false, false, false, false, false, false, false, false, false, false, false, false, false, false] rfl rfl (by kernel_rfl) (fun _ _ _ h => h) (Or.inl ⟨by rfl, ?_⟩) ?_ ?_
  rotate_left
  · intro w'
    go_simp
    with_reducible rfl
  rotate_left
  · simp only [Act.put, List.setIfInBounds_toArray, List.set_cons_zero, List.set_cons_succ, i64_w, i32_w]
    rfl
  refine pure_ (i := 1) (N := some 17) (v := ?_) (a' := ?_) #[true, true, false, false, false, false, false, false, false, false, false, false, false, false, false, false, false, false, false, false, false, false, false] rfl rfl (by kernel_rfl) (fun _ _ _ h => h) (Or.inl ⟨by rfl, ?_⟩) ?_ ?_
  rotate_left
  · intro w'
    go_simp
    with_reducible rfl
  rotate_left
  · simp only [Act.put, List.setIfInBounds_toArray, List.set_cons_zero, List.set_cons_succ, i64_w, i32_w]
    rfl
  refine pure_ (i := 2) (N := some 18) (v := ?_) (a' := ?_) #[true, true, true, false, false, false, false, false, false, false, false, false, false, false, false, false, false, false, false, false, false, false, false] rfl rfl (by kernel_rfl) (fun _ _ _ h => h) (Or.inl ⟨by rfl, ?_⟩) ?_ ?_
  rotate_left
  · intro w'
    go_simp
    with_reducible rfl
  rotate_left
  · simp only [Act.put, List.setIfInBounds_toArray, List.set_cons_zero, List.set_cons_succ, i64_w, i32_w]
    rfl
  refine pure_ (i := 4) (N := some 20) (v := ?_) (a' := ?_) #[true, true, true, false, true, false, false, false, false, false, false, false, false, false, false, false, false, false, false, false, false, false, false] rfl rfl (by kernel_rfl) (fun _ _ _ h => h) (Or.inl ⟨by rfl, ?_⟩) ?_ ?_
  rotate_left
  · intro w'
    go_simp
    with_reducible rfl
  rotate_left
  · simp only [Act.put, List.setIfInBounds_toArray, List.set_cons_zero, List.set_cons_succ, i64_w, i32_w]
    rfl
  refine take_ (i := 3) (N := some 19) (v := ?_) (a' := ?_) #[true, true, true, true, true, false, false, false, false, false, false, false, false, false, false, false, false, false, false, false, false, false, false] rfl rfl (by kernel_rfl) (fun _ _ _ h => h) (Or.inl ⟨by rfl, ?_⟩) hHeld ?_ ?_
  rotate_left
  · rintro w' ⟨s0, s1⟩
    go_simp
    with_reducible rfl
  rotate_left
  · simp only [Act.put, List.setIfInBounds_toArray, List.set_cons_zero, List.set_cons_succ, i64_w, i32_w]
    rfl
  refine one_ (i := 5) (N := some 21) #[true, true, true, true, true, true, false, false, false, false, false, false, false, false, false, false, false, false, false, false, false, false, false] rfl rfl (by kernel_rfl) (by decide) (fun K hK => ?_)
  refine goes_ Tryd.func57 (by kernel_rfl) rfl #[.pointer (some ⟨cb, 0, none⟩), .int .i64 a] (by rfl) rfl rfl (by simp only [List.map_toArray, List.map_cons, List.map_nil]; rfl) ?_
  with_reducible refine (KA.out w5 C5.out).mono ?_
  rintro e w6 ⟨rfl, rfl⟩
  refine ⟨_, rfl, ?_⟩
  refine hK.out _ _ ⟨z3, z0⟩ (fun hHeld => ?_)
  clear hK K
  refine norm_ (a' := ?_) ?_ ?_
  rotate_left
  · show Act.put _ (some 21) _ = _
    simp only [Act.put, List.setIfInBounds_toArray, List.set_cons_zero, List.set_cons_succ, i64_w, i32_w]
    rfl
  refine pure_ (i := 6) (N := some 22) (v := ?_) (a' := ?_) #[true, true, true, true, true, true, true, false, false, false, false, false, false, false, false, false, false, false, false, false, false, false, false] rfl rfl (by kernel_rfl) (fun _ _ _ h => h) (Or.inl ⟨by rfl, ?_⟩) ?_ ?_
  rotate_left
  · intro w'
    go_simp
    with_reducible rfl
  rotate_left
  · simp only [Act.put, List.setIfInBounds_toArray, List.set_cons_zero, List.set_cons_succ, i64_w, i32_w]
    rfl
  refine pure_ (i := 7) (N := some 23) (v := ?_) (a' := ?_) #[true, true, true, true, true, true, true, true, false, false, false, false, false, false, false, false, false, false, false, false, false, false, false] rfl rfl (by kernel_rfl) (fun _ _ _ h => h) (Or.inl ⟨by rfl, ?_⟩) ?_ ?_
  rotate_left
  · intro w'
    go_simp
    with_reducible rfl
  rotate_left
  · simp only [Act.put, List.setIfInBounds_toArray, List.set_cons_zero, List.set_cons_succ, i64_w, i32_w]
    rfl
  refine pure_ (i := 8) (N := some 24) (v := ?_) (a' := ?_) #[true, true, true, true, true, true, true, true, true, false, false, false, false, false, false, false, false, false, false, false, false, false, false] rfl rfl (by kernel_rfl) (fun _ _ _ h => h) (Or.inl ⟨by rfl, ?_⟩) ?_ ?_
  rotate_left
  · intro w'
    go_simp
    with_reducible rfl
  rotate_left
  · simp only [Act.put, List.setIfInBounds_toArray, List.set_cons_zero, List.set_cons_succ, i64_w, i32_w]
    rfl
  refine take_ (i := 9) (N := some 25) (v := ?_) (a' := ?_) #[true, true, true, true, true, true, true, true, true, true, false, false, false, false, false, false, false, false, false, false, false, false, false] rfl rfl (by kernel_rfl) (fun _ _ _ h => h) (Or.inl ⟨by rfl, ?_⟩) hHeld ?_ ?_
  rotate_left
  · rintro w' ⟨s0, s1⟩
    go_simp
    with_reducible rfl
  rotate_left
  · simp only [Act.put, List.setIfInBounds_toArray, List.set_cons_zero, List.set_cons_succ, i64_w, i32_w]
    rfl
  refine take_ (i := 10) (N := some 26) (v := ?_) (a' := ?_) #[true, true, true, true, true, true, true, true, true, true, true, false, false, false, false, false, false, false, false, false, false, false, false] rfl rfl (by kernel_rfl) (fun _ _ _ h => h) (Or.inl ⟨by rfl, ?_⟩) hHeld ?_ ?_
  rotate_left
  · rintro w' ⟨s0, s1⟩
    go_simp
    with_reducible rfl
  rotate_left
  · simp only [Act.put, List.setIfInBounds_toArray, List.set_cons_zero, List.set_cons_succ, i64_w, i32_w]
    rfl
  refine one_ (i := 11) (N := some 27) #[true, true, true, true, true, true, true, true, true, true, true, true, false, false, false, false, false, false, false, false, false, false, false] rfl rfl (by kernel_rfl) (by decide) (fun K hK => ?_)
  refine goes_ Tryd.func57 (by kernel_rfl) rfl #[.pointer (some ⟨cb, 0, none⟩), .int .i64 b] (by rfl) rfl rfl (by simp only [List.map_toArray, List.map_cons, List.map_nil]; rfl) ?_
  with_reducible refine (KB.out w6 C5.out).mono ?_
  rintro e w7 ⟨rfl, rfl⟩
  refine ⟨_, rfl, ?_⟩
  refine hK.out _ _ ⟨z3, z0⟩ (fun hHeld => ?_)
  clear hK K
  refine norm_ (a' := ?_) ?_ ?_
  rotate_left
  · show Act.put _ (some 27) _ = _
    simp only [Act.put, List.setIfInBounds_toArray, List.set_cons_zero, List.set_cons_succ, i64_w, i32_w]
    rfl
  refine pure_ (i := 12) (N := some 28) (v := ?_) (a' := ?_) #[true, true, true, true, true, true, true, true, true, true, true, true, true, false, false, false, false, false, false, false, false, false, false] rfl rfl (by kernel_rfl) (fun _ _ _ h => h) (Or.inl ⟨by rfl, ?_⟩) ?_ ?_
  rotate_left
  · intro w'
    go_simp
    with_reducible rfl
  rotate_left
  · simp only [Act.put, List.setIfInBounds_toArray, List.set_cons_zero, List.set_cons_succ, i64_w, i32_w]
    rfl
  refine pure_ (i := 13) (N := some 29) (v := ?_) (a' := ?_) #[true, true, true, true, true, true, true, true, true, true, true, true, true, true, false, false, false, false, false, false, false, false, false] rfl rfl (by kernel_rfl) (fun _ _ _ h => h) (Or.inl ⟨by rfl, ?_⟩) ?_ ?_
  rotate_left
  · intro w'
    go_simp
    with_reducible rfl
  rotate_left
  · simp only [Act.put, List.setIfInBounds_toArray, List.set_cons_zero, List.set_cons_succ, i64_w, i32_w]
    rfl
  refine pure_ (i := 14) (N := some 30) (v := ?_) (a' := ?_) #[true, true, true, true, true, true, true, true, true, true, true, true, true, true, true, false, false, false, false, false, false, false, false] rfl rfl (by kernel_rfl) (fun _ _ _ h => h) (Or.inl ⟨by rfl, ?_⟩) ?_ ?_
  rotate_left
  · intro w'
    go_simp
    with_reducible rfl
  rotate_left
  · simp only [Act.put, List.setIfInBounds_toArray, List.set_cons_zero, List.set_cons_succ, i64_w, i32_w]
    rfl
  refine pure_ (i := 16) (N := some 32) (v := ?_) (a' := ?_) #[true, true, true, true, true, true, true, true, true, true, true, true, true, true, true, false, true, false, false, false, false, false, false] rfl rfl (by kernel_rfl) (fun _ _ _ h => h) (Or.inl ⟨by rfl, ?_⟩) ?_ ?_
  rotate_left
  · intro w'
    go_simp
    with_reducible rfl
  rotate_left
  · simp only [Act.put, List.setIfInBounds_toArray, List.set_cons_zero, List.set_cons_succ, i64_w, i32_w]
    rfl
  refine take_ (i := 15) (N := some 31) (v := ?_) (a' := ?_) #[true, true, true, true, true, true, true, true, true, true, true, true, true, true, true, true, true, false, false, false, false, false, false] rfl rfl (by kernel_rfl) (fun _ _ _ h => h) (Or.inl ⟨by rfl, ?_⟩) hHeld ?_ ?_
  rotate_left
  · rintro w' ⟨s0, s1⟩
    go_simp
    with_reducible rfl
  rotate_left
  · simp only [Act.put, List.setIfInBounds_toArray, List.set_cons_zero, List.set_cons_succ, i64_w, i32_w]
    rfl
  refine take_ (i := 18) (N := some 34) (v := ?_) (a' := ?_) #[true, true, true, true, true, true, true, true, true, true, true, true, true, true, true, true, true, false, true, false, false, false, false] rfl rfl (by kernel_rfl) (fun _ _ _ h => h) (Or.inl ⟨by rfl, ?_⟩) hHeld ?_ ?_
  rotate_left
  · rintro w' ⟨s0, s1⟩
    go_simp
    with_reducible rfl
  rotate_left
  · simp only [Act.put, List.setIfInBounds_toArray, List.set_cons_zero, List.set_cons_succ, i64_w, i32_w]
    rfl
  refine take_ (i := 19) (N := some 35) (v := ?_) (a' := ?_) #[true, true, true, true, true, true, true, true, true, true, true, true, true, true, true, true, true, false, true, true, false, false, false] rfl rfl (by kernel_rfl) (fun _ _ _ h => h) (Or.inl ⟨by rfl, ?_⟩) hHeld ?_ ?_
  rotate_left
  · rintro w' ⟨s0, s1⟩
    go_simp
    with_reducible rfl
  rotate_left
  · simp only [Act.put, List.setIfInBounds_toArray, List.set_cons_zero, List.set_cons_succ, i64_w, i32_w]
    rfl
  refine one_ (i := 17) (N := some 33) #[true, true, true, true, true, true, true, true, true, true, true, true, true, true, true, true, true, true, true, true, false, false, false] rfl rfl (by kernel_rfl) (by decide) (fun K hK => ?_)
  refine goes_ Tryd.func58 (by kernel_rfl) rfl #[.pointer (some ⟨cb, 0, none⟩), .int .i64 a] (by rfl) rfl rfl (by simp only [List.map_toArray, List.map_cons, List.map_nil]; rfl) ?_
  with_reducible refine (KTA.out w7 C5.out).mono ?_
  rintro e w8 ⟨rfl, rfl⟩
  refine ⟨_, rfl, ?_⟩
  refine hK.out _ _ ⟨z3, z0⟩ (fun hHeld => ?_)
  clear hK K
  refine norm_ (a' := ?_) ?_ ?_
  rotate_left
  · show Act.put _ (some 33) _ = _
    simp only [Act.put, List.setIfInBounds_toArray, List.set_cons_zero, List.set_cons_succ, i64_w, i32_w]
    rfl
  refine one_ (i := 20) (N := some 36) #[true, true, true, true, true, true, true, true, true, true, true, true, true, true, true, true, true, true, true, true, true, false, false] rfl rfl (by kernel_rfl) (by decide) (fun K hK => ?_)
  refine goes_ Tryd.func58 (by kernel_rfl) rfl #[.pointer (some ⟨cb, 0, none⟩), .int .i64 b] (by rfl) rfl rfl (by simp only [List.map_toArray, List.map_cons, List.map_nil]; rfl) ?_
  with_reducible refine (KTB.out w8 C5.out).mono ?_
  rintro e w9 ⟨rfl, rfl⟩
  refine ⟨_, rfl, ?_⟩
  refine hK.out _ _ ⟨z3, z0⟩ (fun hHeld => ?_)
  clear hK K
  refine norm_ (a' := ?_) ?_ ?_
  rotate_left
  · show Act.put _ (some 36) _ = _
    simp only [Act.put, List.setIfInBounds_toArray, List.set_cons_zero, List.set_cons_succ, i64_w, i32_w]
    rfl
  refine pure_ (i := 21) (N := some 37) (v := ?_) (a' := ?_) #[true, true, true, true, true, true, true, true, true, true, true, true, true, true, true, true, true, true, true, true, true, true, false] rfl rfl (by kernel_rfl) (fun _ _ _ h => h) (Or.inl ⟨by rfl, ?_⟩) ?_ ?_
  rotate_left
  · intro w'
    go_simp
    with_reducible rfl
  rotate_left
  · simp only [Act.put, List.setIfInBounds_toArray, List.set_cons_zero, List.set_cons_succ, i64_w, i32_w]
    rfl
  refine pure_ (i := 22) (N := some 38) (v := ?_) (a' := ?_) #[true, true, true, true, true, true, true, true, true, true, true, true, true, true, true, true, true, true, true, true, true, true, true] rfl rfl (by kernel_rfl) (fun _ _ _ h => h) (Or.inl ⟨by rfl, ?_⟩) ?_ ?_
  rotate_left
  · intro w'
    go_simp
    with_reducible rfl
  rotate_left
  · simp only [Act.put, List.setIfInBounds_toArray, List.set_cons_zero, List.set_cons_succ, i64_w, i32_w]
    rfl
  refine done_ (by kernel_rfl) ?_
  clear KA KB KTA KTB HNO hHeld z3 z0 et
  by_cases an : a < 0
  · clear hsg
    have y3 : w9.cell? ⟨cx, 0, none⟩ = some (.pointer (some ⟨cb, 0, none⟩)) := (blk_cell J5.out.b3 0).trans rfl
    have y0 : w9.cell? ⟨w.heap.size, 0, none⟩ = some (.int .i64 b) := (blk_cell J5.out.b0 0).trans rfl
    have KH := sheap_calls l HC.out cb a b w9 C5.out HLL.out
    go_wp2_with fail
    refine KH.mono ?_
    rintro e w10 ⟨rfl, hb1⟩
    have J10 := Aside0.mk (J5.out.below hb1)
    have C10 := Aside0.mk (C5.out.below hb1)
    clear hb1 KH y3 y0
    cases h1 : heapM l a b with
    | true =>
      have H1 := Aside0.mk h1
      clear h1
      have y3 : w10.cell? ⟨cx, 0, none⟩ = some (.pointer (some ⟨cb, 0, none⟩)) := (blk_cell J10.out.b3 0).trans rfl
      have y0 : w10.cell? ⟨w.heap.size, 0, none⟩ = some (.int .i64 b) := (blk_cell J10.out.b0 0).trans rfl
      have z1 : w10.cell? ⟨w.heap.size + 1, 0, none⟩ = some (.int .i64 0) := (blk_cell J10.out.b1 0).trans rfl
      have z2 : w10.cell? ⟨w.heap.size + 1 + 1, 0, none⟩ = some (.bool false) := (blk_cell J10.out.b2 0).trans rfl
      have f1 : w10.frozen? ⟨w.heap.size + 1, 0, none⟩ = false := blk_frozen J10.out.b1 0
      have f2 : (w10.setCell ⟨w.heap.size + 1, 0, none⟩ (.int .i64 b)).frozen? ⟨w.heap.size + 1 + 1, 0, none⟩ = false := blk_frozen (J10.out.st1 b).b2 0
      have y0' : (w10.setCell ⟨w.heap.size + 1, 0, none⟩ (.int .i64 b)).cell? ⟨w.heap.size, 0, none⟩ = some (.int .i64 b) := (blk_cell (J10.out.st1 b).b0 0).trans rfl
      go_wp2_with fail
      refine bodyPost_ret (v := .tuple #[.int .i64 b, .bool true]) ?_ rfl ?_
      · exact ((J10.out.st1 b).st2 true).fin rfl rfl
      · exact ⟨b, true, rfl, .inr ⟨rfl, YES.out, .inr (.inr (.inl ⟨SG.out, H1.out, rfl⟩))⟩, ((J10.out.st1 b).st2 true).bel⟩
    | false =>
      have H1 := Aside0.mk h1
      clear h1
      have y3 : w10.cell? ⟨cx, 0, none⟩ = some (.pointer (some ⟨cb, 0, none⟩)) := (blk_cell J10.out.b3 0).trans rfl
      have y0 : w10.cell? ⟨w.heap.size, 0, none⟩ = some (.int .i64 b) := (blk_cell J10.out.b0 0).trans rfl
      have KH := sheap_calls l HC.out cb b a w10 C10.out HLL.out
      go_wp2_with fail
      refine KH.mono ?_
      rintro e w11 ⟨rfl, hb1⟩
      have J11 := Aside0.mk (J10.out.below hb1)
      have C11 := Aside0.mk (C10.out.below hb1)
      clear hb1 KH y3 y0
      cases h2 : heapM l b a with
      | true =>
        have H2 := Aside0.mk h2
        clear h2
        have z1 : w11.cell? ⟨w.heap.size + 1, 0, none⟩ = some (.int .i64 0) := (blk_cell J11.out.b1 0).trans rfl
        have z2 : w11.cell? ⟨w.heap.size + 1 + 1, 0, none⟩ = some (.bool false) := (blk_cell J11.out.b2 0).trans rfl
        have f1 : w11.frozen? ⟨w.heap.size + 1, 0, none⟩ = false := blk_frozen J11.out.b1 0
        have f2 : (w11.setCell ⟨w.heap.size + 1, 0, none⟩ (.int .i64 a)).frozen? ⟨w.heap.size + 1 + 1, 0, none⟩ = false := blk_frozen (J11.out.st1 a).b2 0
        have y0' : (w11.setCell ⟨w.heap.size + 1, 0, none⟩ (.int .i64 a)).cell? ⟨w.heap.size, 0, none⟩ = some (.int .i64 b) := (blk_cell (J11.out.st1 a).b0 0).trans rfl
        go_wp2_with fail
        refine bodyPost_ret (v := .tuple #[.int .i64 a, .bool true]) ?_ rfl ?_
        · exact ((J11.out.st1 a).st2 true).fin rfl rfl
        · exact ⟨a, true, rfl, .inr ⟨rfl, YES.out, .inr (.inr (.inr (.inl ⟨SG.out, H2.out, rfl⟩)))⟩, ((J11.out.st1 a).st2 true).bel⟩
      | false =>
        have H2 := Aside0.mk h2
        clear h2
        have US : Aside0 (UpOn l b (startM l a) (startM l a)) := ⟨UpOn.start (startM_in YES.out.1).1 (startM_in YES.out.1).2 (start_ten YES.out.1 YES.out.2.1 YES.out.2.2 H1.out) YES.out.2.2⟩
        have y3 : w11.cell? ⟨cx, 0, none⟩ = some (.pointer (some ⟨cb, 0, none⟩)) := (blk_cell J11.out.b3 0).trans rfl
        have y0 : w11.cell? ⟨w.heap.size, 0, none⟩ = some (.int .i64 b) := (blk_cell J11.out.b0 0).trans rfl
        have es : startM l a = a := by unfold startM; rw [if_neg (by omega)]
        have ES := Aside0.mk es
        clear es
        go_wp2_with fail
        have US : Aside0 (UpOn l b (startM l a) a) := ⟨by have := US.out; rw [ES.out] at this ⊢; exact this⟩
        go_loopw [1] (fun v W => ∃ x, v = .int .i64 x ∧ UpOn l b (startM l a) x ∧ Below w11.heap.size w11 W) (fun v _ => (-(intOf v)).toNat)
        case atStart => exact ⟨a, rfl, US.out, Below.refl _ _⟩
        case round =>
          obtain ⟨x, rfl, hu, hbw⟩ := hrel
          have HU := Aside0.mk hu
          have JR := Aside0.mk (J11.out.below hbw)
          have CR := Aside0.mk (C11.out.below hbw)
          have WR := Aside0.mk hbw
          have xl : -12 ≤ x := hu.lo
          have xn : x < 0 := hu.neg
          clear hu hbw y3 y0
          have y3 : wr.cell? ⟨cx, 0, none⟩ = some (.pointer (some ⟨cb, 0, none⟩)) := (blk_cell JR.out.b3 0).trans rfl
          have y0 : wr.cell? ⟨w.heap.size, 0, none⟩ = some (.int .i64 b) := (blk_cell JR.out.b0 0).trans rfl
          have KH := sheap_calls l HC.out cb b x wr CR.out HLL.out
          go_wp2_with fail
          refine KH.mono ?_
          rintro e w12 ⟨rfl, hbz⟩
          have JZ := Aside0.mk (JR.out.below hbz)
          have WZ := Aside0.mk (WR.out.trans (hbz.mono WR.out.size))
          clear hbz KH y3 y0
          cases h3 : heapM l b x with
          | true =>
            have H3 := Aside0.mk h3
            clear h3
            have z1 : w12.cell? ⟨w.heap.size + 1, 0, none⟩ = some (.int .i64 0) := (blk_cell JZ.out.b1 0).trans rfl
            have z2 : w12.cell? ⟨w.heap.size + 1 + 1, 0, none⟩ = some (.bool false) := (blk_cell JZ.out.b2 0).trans rfl
            have f1 : w12.frozen? ⟨w.heap.size + 1, 0, none⟩ = false := blk_frozen JZ.out.b1 0
            have f2 : (w12.setCell ⟨w.heap.size + 1, 0, none⟩ (.int .i64 x)).frozen? ⟨w.heap.size + 1 + 1, 0, none⟩ = false := blk_frozen (JZ.out.st1 x).b2 0
            have y0' : (w12.setCell ⟨w.heap.size + 1, 0, none⟩ (.int .i64 x)).cell? ⟨w.heap.size, 0, none⟩ = some (.int .i64 b) := (blk_cell (JZ.out.st1 x).b0 0).trans rfl
            go_wp2_with fail
            refine bodyPost_ret (v := .tuple #[.int .i64 x, .bool true]) ?_ rfl ?_
            · exact ((JZ.out.st1 x).st2 true).fin rfl rfl
            · exact ⟨x, true, rfl, .inr ⟨rfl, YES.out, .inr (.inr (.inr (.inr ⟨SG.out, H1.out, H2.out, HU.out.done H3.out⟩)))⟩, ((JZ.out.st1 x).st2 true).bel⟩
          | false =>
            have US2 := Aside0.mk (HU.out.step YES.out.2.1 (startM_in YES.out.1).1 (startM_in YES.out.1).2 h3)
            have KU := sup_calls x w12 xl (by omega)
            clear h3
            go_wp2_with fail
            refine KU.mono ?_
            rintro e w13 ⟨rfl, rfl⟩
            clear KU
            go_wp2_with fail
            go_roundw
            case rel => exact ⟨upH x, rfl, US2.out.1, WZ.out⟩
            case measure => have := US2.out.2; have := US2.out.1.neg; simp [intOf]; omega
  · have a0 : 0 ≤ a := by omega
    have bn : b < 0 := by omega
    clear hsg an
    have y3 : w9.cell? ⟨cx, 0, none⟩ = some (.pointer (some ⟨cb, 0, none⟩)) := (blk_cell J5.out.b3 0).trans rfl
    have y0 : w9.cell? ⟨w.heap.size, 0, none⟩ = some (.int .i64 b) := (blk_cell J5.out.b0 0).trans rfl
    have KH := sheap_calls l HC.out cb a b w9 C5.out HLL.out
    go_wp2_with fail
    refine KH.mono ?_
    rintro e w10 ⟨rfl, hb1⟩
    have J10 := Aside0.mk (J5.out.below hb1)
    have C10 := Aside0.mk (C5.out.below hb1)
    clear hb1 KH y3 y0
    cases h1 : heapM l a b with
    | true =>
      have H1 := Aside0.mk h1
      clear h1
      have y3 : w10.cell? ⟨cx, 0, none⟩ = some (.pointer (some ⟨cb, 0, none⟩)) := (blk_cell J10.out.b3 0).trans rfl
      have y0 : w10.cell? ⟨w.heap.size, 0, none⟩ = some (.int .i64 b) := (blk_cell J10.out.b0 0).trans rfl
      have z1 : w10.cell? ⟨w.heap.size + 1, 0, none⟩ = some (.int .i64 0) := (blk_cell J10.out.b1 0).trans rfl
      have z2 : w10.cell? ⟨w.heap.size + 1 + 1, 0, none⟩ = some (.bool false) := (blk_cell J10.out.b2 0).trans rfl
      have f1 : w10.frozen? ⟨w.heap.size + 1, 0, none⟩ = false := blk_frozen J10.out.b1 0
      have f2 : (w10.setCell ⟨w.heap.size + 1, 0, none⟩ (.int .i64 b)).frozen? ⟨w.heap.size + 1 + 1, 0, none⟩ = false := blk_frozen (J10.out.st1 b).b2 0
      have y0' : (w10.setCell ⟨w.heap.size + 1, 0, none⟩ (.int .i64 b)).cell? ⟨w.heap.size, 0, none⟩ = some (.int .i64 b) := (blk_cell (J10.out.st1 b).b0 0).trans rfl
      go_wp2_with fail
      refine bodyPost_ret (v := .tuple #[.int .i64 b, .bool true]) ?_ rfl ?_
      · exact ((J10.out.st1 b).st2 true).fin rfl rfl
      · exact ⟨b, true, rfl, .inr ⟨rfl, YES.out, .inr (.inr (.inl ⟨SG.out, H1.out, rfl⟩))⟩, ((J10.out.st1 b).st2 true).bel⟩
    | false =>
      have H1 := Aside0.mk h1
      clear h1
      have y3 : w10.cell? ⟨cx, 0, none⟩ = some (.pointer (some ⟨cb, 0, none⟩)) := (blk_cell J10.out.b3 0).trans rfl
      have y0 : w10.cell? ⟨w.heap.size, 0, none⟩ = some (.int .i64 b) := (blk_cell J10.out.b0 0).trans rfl
      have KH := sheap_calls l HC.out cb b a w10 C10.out HLL.out
      go_wp2_with fail
      refine KH.mono ?_
      rintro e w11 ⟨rfl, hb1⟩
      have J11 := Aside0.mk (J10.out.below hb1)
      have C11 := Aside0.mk (C10.out.below hb1)
      clear hb1 KH y3 y0
      cases h2 : heapM l b a with
      | true =>
        have H2 := Aside0.mk h2
        clear h2
        have z1 : w11.cell? ⟨w.heap.size + 1, 0, none⟩ = some (.int .i64 0) := (blk_cell J11.out.b1 0).trans rfl
        have z2 : w11.cell? ⟨w.heap.size + 1 + 1, 0, none⟩ = some (.bool false) := (blk_cell J11.out.b2 0).trans rfl
        have f1 : w11.frozen? ⟨w.heap.size + 1, 0, none⟩ = false := blk_frozen J11.out.b1 0
        have f2 : (w11.setCell ⟨w.heap.size + 1, 0, none⟩ (.int .i64 a)).frozen? ⟨w.heap.size + 1 + 1, 0, none⟩ = false := blk_frozen (J11.out.st1 a).b2 0
        have y0' : (w11.setCell ⟨w.heap.size + 1, 0, none⟩ (.int .i64 a)).cell? ⟨w.heap.size, 0, none⟩ = some (.int .i64 b) := (blk_cell (J11.out.st1 a).b0 0).trans rfl
        go_wp2_with fail
        refine bodyPost_ret (v := .tuple #[.int .i64 a, .bool true]) ?_ rfl ?_
        · exact ((J11.out.st1 a).st2 true).fin rfl rfl
        · exact ⟨a, true, rfl, .inr ⟨rfl, YES.out, .inr (.inr (.inr (.inl ⟨SG.out, H2.out, rfl⟩)))⟩, ((J11.out.st1 a).st2 true).bel⟩
      | false =>
        have H2 := Aside0.mk h2
        clear h2
        have US : Aside0 (UpOn l b (startM l a) (startM l a)) := ⟨UpOn.start (startM_in YES.out.1).1 (startM_in YES.out.1).2 (start_ten YES.out.1 YES.out.2.1 YES.out.2.2 H1.out) YES.out.2.2⟩
        have y3 : w11.cell? ⟨cx, 0, none⟩ = some (.pointer (some ⟨cb, 0, none⟩)) := (blk_cell J11.out.b3 0).trans rfl
        have y0 : w11.cell? ⟨w.heap.size, 0, none⟩ = some (.int .i64 b) := (blk_cell J11.out.b0 0).trans rfl
        have es : startM l a = kindOf l a := by unfold startM; rw [if_pos a0]
        have ES := Aside0.mk es
        clear es
        have KK := skind_calls l cb a w11 C11.out a0 (isM_bounds YES.out.1).2
        go_wp2_with fail
        refine KK.mono ?_
        rintro e w14 ⟨rfl, rfl⟩
        clear KK
        go_wp2_with fail
        have US : Aside0 (UpOn l b (startM l a) (kindOf l a)) := ⟨by have := US.out; rw [ES.out] at this ⊢; exact this⟩
        go_loopw [1] (fun v W => ∃ x, v = .int .i64 x ∧ UpOn l b (startM l a) x ∧ Below w14.heap.size w14 W) (fun v _ => (-(intOf v)).toNat)
        case atStart => exact ⟨kindOf l a, rfl, US.out, Below.refl _ _⟩
        case round =>
          obtain ⟨x, rfl, hu, hbw⟩ := hrel
          have HU := Aside0.mk hu
          have JR := Aside0.mk (J11.out.below hbw)
          have CR := Aside0.mk (C11.out.below hbw)
          have WR := Aside0.mk hbw
          have xl : -12 ≤ x := hu.lo
          have xn : x < 0 := hu.neg
          clear hu hbw y3 y0
          have y3 : wr.cell? ⟨cx, 0, none⟩ = some (.pointer (some ⟨cb, 0, none⟩)) := (blk_cell JR.out.b3 0).trans rfl
          have y0 : wr.cell? ⟨w.heap.size, 0, none⟩ = some (.int .i64 b) := (blk_cell JR.out.b0 0).trans rfl
          have KH := sheap_calls l HC.out cb b x wr CR.out HLL.out
          go_wp2_with fail
          refine KH.mono ?_
          rintro e w12 ⟨rfl, hbz⟩
          have JZ := Aside0.mk (JR.out.below hbz)
          have WZ := Aside0.mk (WR.out.trans (hbz.mono WR.out.size))
          clear hbz KH y3 y0
          cases h3 : heapM l b x with
          | true =>
            have H3 := Aside0.mk h3
            clear h3
            have z1 : w12.cell? ⟨w.heap.size + 1, 0, none⟩ = some (.int .i64 0) := (blk_cell JZ.out.b1 0).trans rfl
            have z2 : w12.cell? ⟨w.heap.size + 1 + 1, 0, none⟩ = some (.bool false) := (blk_cell JZ.out.b2 0).trans rfl
            have f1 : w12.frozen? ⟨w.heap.size + 1, 0, none⟩ = false := blk_frozen JZ.out.b1 0
            have f2 : (w12.setCell ⟨w.heap.size + 1, 0, none⟩ (.int .i64 x)).frozen? ⟨w.heap.size + 1 + 1, 0, none⟩ = false := blk_frozen (JZ.out.st1 x).b2 0
            have y0' : (w12.setCell ⟨w.heap.size + 1, 0, none⟩ (.int .i64 x)).cell? ⟨w.heap.size, 0, none⟩ = some (.int .i64 b) := (blk_cell (JZ.out.st1 x).b0 0).trans rfl
            go_wp2_with fail
            refine bodyPost_ret (v := .tuple #[.int .i64 x, .bool true]) ?_ rfl ?_
            · exact ((JZ.out.st1 x).st2 true).fin rfl rfl
            · exact ⟨x, true, rfl, .inr ⟨rfl, YES.out, .inr (.inr (.inr (.inr ⟨SG.out, H1.out, H2.out, HU.out.done H3.out⟩)))⟩, ((JZ.out.st1 x).st2 true).bel⟩
          | false =>
            have US2 := Aside0.mk (HU.out.step YES.out.2.1 (startM_in YES.out.1).1 (startM_in YES.out.1).2 h3)
            have KU := sup_calls x w12 xl (by omega)
            clear h3
            go_wp2_with fail
            refine KU.mono ?_
            rintro e w13 ⟨rfl, rfl⟩
            clear KU
            go_wp2_with fail
            go_roundw
            case rel => exact ⟨upH x, rfl, US2.out.1, WZ.out⟩
            case measure => have := US2.out.2; have := US2.out.1.neg; simp [intOf]; omega
attribute [local go_sem] Oper.semAt_some
theorem JB.put {w W : World} {cb cx : Nat} {b h : Int} {v : Bool} (j : JB w cb cx b h v W) (l : Nat) (o : Obj) (hl : cx < l) (hlt : l < W.heap.size) : JB w cb cx b h v (W.putObj l o) :=
  ⟨(World.putObj_heap_other (by have := j.cxl; omega)).trans j.b0, (World.putObj_heap_other (by have := j.cxl; omega)).trans j.b1, (World.putObj_heap_other (by have := j.cxl; omega)).trans j.b2, (World.putObj_heap_other (by omega)).trans j.b3,
   j.bel.grown (grownBy_putObj' W l o) j.bel.size (fun k e => by cases e; have := j.cxl; omega), j.cxl⟩
theorem JB.set {w W : World} {cb cx : Nat} {b h : Int} {v : Bool} (j : JB w cb cx b h v W) (l : Nat) (u : Value) (hl : cx < l) : JB w cb cx b h v (W.setCell ⟨l, 0, none⟩ u) :=
  ⟨blk_far j.b0 (show w.heap.size ≠ l by have := j.cxl; omega) u, blk_far j.b1 (show w.heap.size + 1 ≠ l by have := j.cxl; omega) u, blk_far j.b2 (show w.heap.size + 1 + 1 ≠ l by have := j.cxl; omega) u, blk_far j.b3 (show cx ≠ l by omega) u, j.bel.trans ((Below.refl _ _).setCell (p := ⟨l, 0, none⟩) (by show w.heap.size ≤ l; have := j.cxl; omega) u), j.cxl⟩
theorem JB.alloc {w W : World} {cb cx : Nat} {b h : Int} {v : Bool} (j : JB w cb cx b h v W) (o : Obj) : JB w cb cx b h v (W.alloc o) := j.below ((Below.refl _ _).alloc (Nat.le_refl _) o)
/-- The boxes of Join while it goes up a type's chain. -/
structure JR (w w9 : World) (cb cx : Nat) (b : Int) (W : World) : Prop where
  j : JB w cb cx b 0 false W
  pb : W.heap[w9.heap.size]? = some (.cells #[.pointer (some ⟨cb, 0, none⟩)] 99 (0, 0))
  be : Below w9.heap.size w9 W
  cl : cx < w9.heap.size
  sz : w9.heap.size + 1 < W.heap.size
theorem JR.stays {w w9 : World} {cb cx : Nat} {b : Int} {B : Nat} (hB : w9.heap.size + 1 < B) (q : Prop) : Stays (w9.heap.size + 1) B (fun W => JR w w9 cb cx b W ∧ q) where
  put := fun W l o hl hlt h => ⟨⟨h.1.j.put l o (by have := h.1.cl; omega) hlt, (World.putObj_heap_other (by omega)).trans h.1.pb, h.1.be.grown (grownBy_putObj' W l o) h.1.be.size (fun k e => by cases e; omega), h.1.cl, by rw [World.putObj_size]; exact h.1.sz⟩, h.2⟩
  set := fun W u h => ⟨⟨h.1.j.set _ u (by have := h.1.cl; omega), blk_far h.1.pb (show w9.heap.size ≠ w9.heap.size + 1 by omega) u, h.1.be.trans ((Below.refl _ _).setCell (p := ⟨w9.heap.size + 1, 0, none⟩) (by show w9.heap.size ≤ w9.heap.size + 1; omega) u), h.1.cl, by have := h.1.sz; simpa using this⟩, h.2⟩
  drew := fun W h => ⟨⟨h.1.j.drew, h.1.pb, h.1.be.drew, h.1.cl, h.1.sz⟩, h.2⟩
  alloc := fun W o h => ⟨⟨h.1.j.alloc o, blk_alloc h.1.pb o, h.1.be.alloc h.1.be.size o, h.1.cl, by have := h.1.sz; rw [World.size_alloc]; omega⟩, h.2⟩
/-- How the range is left from within. -/
def JX (l : List S62) (w : World) (cb cx : Nat) (b : Int) (c : Code) (p : List Int) (W : World) : Prop := c = .ret ∧ ∃ (p0 : List Int) (x : Int), p = p0 ++ [x] ∧ (∀ y ∈ p0, heapM l b y = false) ∧ heapM l b x = true ∧ JB w cb cx b x true W
/-- A region that does not die is walked for its normal way out alone. -/
theorem wp_calm {P : Program} {c : Code} {K : Act → World → Prop} {R : Exit → Act → World → Prop} {a : Act} {w : World} (h : c.wp P (Exit.then K (fun _ _ _ => False)) a w) : c.wp P (Exit.then K R) a w :=
  Code.wp_mono (fun e a w hh => by cases e <;> first | exact hh | exact hh.elim) h
set_option maxRecDepth 100000 in
set_option maxHeartbeats 8000000 in
theorem sjoin_two (A : Option Addr) (c : Nat) (l : List S62) (a b : Int) (w : World) (hl : LA w A c l) (hc : Clo l) (htab : Lib.TabBelow Tryd.prog w.heap.size w "internal/strconv.uint64pow10" .u64 Lib.pow10Tab)
    (ha : isM l a = true) (hb : isM l b = true) (ht : topM l a = topM l b) (a0 : 0 ≤ a) (b0 : 0 ≤ b) :
    Calls Tryd.prog 34 #[.slice A l.length c, .int .i64 a, .int .i64 b] w fun e w' => ∃ h ok, e = .returned (.tuple #[.int .i64 h, .bool ok]) ∧ JoinOut l a b h ok ∧ Below w.heap.size w w' := by
  have YES := Aside0.mk (And.intro ha (And.intro hb ht))
  have SG := Aside0.mk (And.intro a0 b0)
  obtain ⟨W0, hW0⟩ : ∃ W0, W0 = (((w.alloc (.cells #[.int .i64 b] 3)).alloc (.cells #[.int .i64 0] 3)).alloc (.cells #[.bool false] 4)) := ⟨_, rfl⟩
  have ba : Below w.heap.size w W0 := by rw [hW0]; exact (((Below.refl _ _).alloc (Nat.le_refl _) _).alloc (by simp) _).alloc (by simp; omega) _
  have x0 : W0.heap[w.heap.size]? = some (.cells #[.int .i64 b] 3 (0, 0)) := by rw [hW0]; exact blk_alloc (blk_alloc (blk_new w _) _) _
  have x1 : W0.heap[w.heap.size + 1]? = some (.cells #[.int .i64 0] 3 (0, 0)) := by rw [hW0]; have h := blk_alloc (blk_new (w.alloc (.cells #[.int .i64 b] 3)) (.cells #[.int .i64 0] 3)) (.cells #[.bool false] 4); rw [World.size_alloc] at h; exact h
  have x2 : W0.heap[w.heap.size + 1 + 1]? = some (.cells #[.bool false] 4 (0, 0)) := by rw [hW0]; have h := blk_new ((w.alloc (.cells #[.int .i64 b] 3)).alloc (.cells #[.int .i64 0] 3)) (.cells #[.bool false] 4); rw [World.size_alloc, World.size_alloc] at h; exact h
  have K := opened_calls A c l W0 (hl.below ba) (tab_mono (htab.on ba) ba.size)
  have HC := Aside0.mk hc
  have HLL := Aside0.mk hl.flat_le
  have BA := Aside0.mk ba
  have X := Aside0.mk (And.intro x0 (And.intro x1 x2))
  clear hl hc htab ba x0 x1 x2
  have et : (topM l a != topM l b) = false := by simp [ht]
  clear ha hb ht
  refine (callsIn_wide (n := 5)).1 ?_
  refine callsIn_of_wp_marks Tryd.func34 rfl trivial ?_ rfl
  simp only [Tryd.ntmps34, List.size_toArray, List.length_cons, List.length_nil, Nat.reduceAdd, Nat.reduceSub, Array.replicate_succ, Array.replicate_zero, List.push_toArray, List.append_toArray, List.nil_append, List.cons_append]
  refine wpIn_wide.2 ?_
  go_wp2_with fail
  rw [← hW0]
  clear hW0
  refine K.mono ?_
  rintro e w1 ⟨hb, ⟨_, rfl, hx⟩ | ⟨hn, _⟩⟩
  rotate_left
  · exact absurd HC.out hn
  obtain ⟨cb, hcb⟩ : ∃ cb, cb = W0.heap.size := ⟨_, rfl⟩
  rw [← hcb] at hx ⊢
  obtain ⟨cx, hcx⟩ : ∃ cx, cx = w1.heap.size := ⟨_, rfl⟩
  have BW1 := BA.out.trans (hb.mono BA.out.size)
  have hcx2 : w.heap.size + 1 + 1 < cx := by rw [hcx]; exact blk_lt (blk_below X.out.2.2 hb)
  obtain ⟨W2, hW2⟩ : ∃ W2, W2 = w1.alloc (.cells #[.pointer (some ⟨cb, 0, none⟩)] 99) := ⟨_, rfl⟩
  have J2 : Aside0 (JB w cb cx b 0 false W2) := ⟨by rw [hW2]; exact ⟨blk_alloc (blk_below X.out.1 hb) _, blk_alloc (blk_below X.out.2.1 hb) _, blk_alloc (blk_below X.out.2.2 hb) _, by rw [hcx]; exact blk_new w1 _, BW1.alloc BW1.size _, hcx2⟩⟩
  have C2 : Aside0 (Ctx l cb W2) := ⟨by rw [hW2]; exact hx.below ((Below.refl _ _).alloc (Nat.le_refl _) _)⟩
  clear hb hx K hcb BW1 hcx2 X BA
  go_wp2_with fail
  rw [← hW2]
  rw [← hcx]
  clear hW2 hcx
  have z3 : W2.cell? ⟨cx, 0, none⟩ = some (.pointer (some ⟨cb, 0, none⟩)) := (blk_cell J2.out.b3 0).trans rfl
  have z0 : W2.cell? ⟨w.heap.size, 0, none⟩ = some (.int .i64 b) := (blk_cell J2.out.b0 0).trans rfl
  have KA : Aside0 (∀ W, Ctx l cb W → Calls Tryd.prog 57 #[.pointer (some ⟨cb, 0, none⟩), .int .i64 a] W fun e w' => e = .returned (.bool true) ∧ w' = W) := ⟨fun W h => by have := sis_calls l cb a W h; rw [YES.out.1] at this; exact this⟩
  have KB : Aside0 (∀ W, Ctx l cb W → Calls Tryd.prog 57 #[.pointer (some ⟨cb, 0, none⟩), .int .i64 b] W fun e w' => e = .returned (.bool true) ∧ w' = W) := ⟨fun W h => by have := sis_calls l cb b W h; rw [YES.out.2.1] at this; exact this⟩
  have KTA : Aside0 (∀ W, Ctx l cb W → Calls Tryd.prog 58 #[.pointer (some ⟨cb, 0, none⟩), .int .i64 a] W fun e w' => e = .returned (.int .i64 (topM l a)) ∧ w' = W) := ⟨fun W h => stop_calls l cb a W h YES.out.1⟩
  have KTB : Aside0 (∀ W, Ctx l cb W → Calls Tryd.prog 58 #[.pointer (some ⟨cb, 0, none⟩), .int .i64 b] W fun e w' => e = .returned (.int .i64 (topM l b)) ∧ w' = W) := ⟨fun W h => stop_calls l cb b W h YES.out.2.1⟩
  refine wp_calm ?_
  refine start_ (n := 23) (S := fun w' => w'.cell? ⟨cx, 0, none⟩ = some (.pointer (some ⟨cb, 0, none⟩)) ∧ w'.cell? ⟨w.heap.size, 0, none⟩ = some (.int .i64 b)) (ds := []) #[false, false, false, false, false, false, false, false, false, false, false, false, false, false, false, false, false, false, false, false, false, false, false] (by kernel_rfl) rfl rfl ⟨z3, z0⟩ (fun hHeld => ?_)
  have C5 : Aside0 (Ctx l cb W2.drew) := ⟨C2.out.below ⟨rfl, rfl, rfl, Nat.le_refl _, fun _ _ => rfl⟩⟩
  have J5 : Aside0 (JB w cb cx b 0 false W2.drew) := ⟨J2.out.drew⟩
  replace z3 : W2.drew.cell? _ = _ := z3
  replace z0 : W2.drew.cell? _ = _ := z0
  clear C2 J2
  generalize W2.drew = w5 at C5 J5 z3 z0 hHeld ⊢
  refine pure_ (i := 0) (N := some 16) (v := ?_) (a' := ?_) #[true, false, false, false, false, false, false, false, false, false, false, false, false, false, false, false, false, false, false, false, false, false, false] rfl rfl (by kernel_rfl) (fun _ _ _ h => h) (Or.inl ⟨by rfl, ?_⟩) ?_ ?_
  rotate_left
  · intro w'
    go_simp
    with_reducible rfl
  rotate_left
  · simp only [Act.put, List.setIfInBounds_toArray, List.set_cons_zero, List.set_cons_succ, i64_w, i32_w]
    rfl
  refine pure_ (i := 1) (N := some 17) (v := ?_) (a' := ?_) #[true, true, false, false, false, false, false, false, false, false, false, false, false, false, false, false, false, false, false, false, false, false, false] rfl rfl (by kernel_rfl) (fun _ _ _ h => h) (Or.inl ⟨by rfl, ?_⟩) ?_ ?_
  rotate_left
  · intro w'
    go_simp
    with_reducible rfl
  rotate_left
  · simp only [Act.put, List.setIfInBounds_toArray, List.set_cons_zero, List.set_cons_succ, i64_w, i32_w]
    rfl
  refine pure_ (i := 2) (N := some 18) (v := ?_) (a' := ?_) #[true, true, true, false, false, false, false, false, false, false, false, false, false, false, false, false, false, false, false, false, false, false, false] rfl rfl (by kernel_rfl) (fun _ _ _ h => h) (Or.inl ⟨by rfl, ?_⟩) ?_ ?_
  rotate_left
  · intro w'
    go_simp
    with_reducible rfl
  rotate_left
  · simp only [Act.put, List.setIfInBounds_toArray, List.set_cons_zero, List.set_cons_succ, i64_w, i32_w]
    rfl
  refine pure_ (i := 4) (N := some 20) (v := ?_) (a' := ?_) #[true, true, true, false, true, false, false, false, false, false, false, false, false, false, false, false, false, false, false, false, false, false, false] rfl rfl (by kernel_rfl) (fun _ _ _ h => h) (Or.inl ⟨by rfl, ?_⟩) ?_ ?_
  rotate_left
  · intro w'
    go_simp
    with_reducible rfl
  rotate_left
  · simp only [Act.put, List.setIfInBounds_toArray, List.set_cons_zero, List.set_cons_succ, i64_w, i32_w]
    rfl
  refine take_ (i := 3) (N := some 19) (v := ?_) (a' := ?_) #[true, true, true, true, true, false, false, false, false, false, false, false, false, false, false, false, false, false, false, false, false, false, false] rfl rfl (by kernel_rfl) (fun _ _ _ h => h) (Or.inl ⟨by rfl, ?_⟩) hHeld ?_ ?_
  rotate_left
  · rintro w' ⟨s0, s1⟩
    go_simp
    with_reducible rfl
  rotate_left
  · simp only [Act.put, List.setIfInBounds_toArray, List.set_cons_zero, List.set_cons_succ, i64_w, i32_w]
    rfl
  refine one_ (i := 5) (N := some 21) #[true, true, true, true, true, true, false, false, false, false, false, false, false, false, false, false, false, false, false, false, false, false, false] rfl rfl (by kernel_rfl) (by decide) (fun K hK => ?_)
  refine goes_ Tryd.func57 (by kernel_rfl) rfl #[.pointer (some ⟨cb, 0, none⟩), .int .i64 a] (by rfl) rfl rfl (by simp only [List.map_toArray, List.map_cons, List.map_nil]; rfl) ?_
  with_reducible refine (KA.out w5 C5.out).mono ?_
  rintro e w6 ⟨rfl, rfl⟩
  refine ⟨_, rfl, ?_⟩
  refine hK.out _ _ ⟨z3, z0⟩ (fun hHeld => ?_)
  clear hK K
  refine norm_ (a' := ?_) ?_ ?_
  rotate_left
  · show Act.put _ (some 21) _ = _
    simp only [Act.put, List.setIfInBounds_toArray, List.set_cons_zero, List.set_cons_succ, i64_w, i32_w]
    rfl
  refine pure_ (i := 6) (N := some 22) (v := ?_) (a' := ?_) #[true, true, true, true, true, true, true, false, false, false, false, false, false, false, false, false, false, false, false, false, false, false, false] rfl rfl (by kernel_rfl) (fun _ _ _ h => h) (Or.inl ⟨by rfl, ?_⟩) ?_ ?_
  rotate_left
  · intro w'
    go_simp
    with_reducible rfl
  rotate_left
  · simp only [Act.put, List.setIfInBounds_toArray, List.set_cons_zero, List.set_cons_succ, i64_w, i32_w]
    rfl
  refine pure_ (i := 7) (N := some 23) (v := ?_) (a' := ?_) #[true, true, true, true, true, true, true, true, false, false, false, false, false, false, false, false, false, false, false, false, false, false, false] rfl rfl (by kernel_rfl) (fun _ _ _ h => h) (Or.inl ⟨by rfl, ?_⟩) ?_ ?_
  rotate_left
  · intro w'
    go_simp
    with_reducible rfl
  rotate_left
  · simp only [Act.put, List.setIfInBounds_toArray, List.set_cons_zero, List.set_cons_succ, i64_w, i32_w]
    rfl
  refine pure_ (i := 8) (N := some 24) (v := ?_) (a' := ?_) #[true, true, true, true, true, true, true, true, true, false, false, false, false, false, false, false, false, false, false, false, false, false, false] rfl rfl (by kernel_rfl) (fun _ _ _ h => h) (Or.inl ⟨by rfl, ?_⟩) ?_ ?_
  rotate_left
  · intro w'
    go_simp
    with_reducible rfl
  rotate_left
  · simp only [Act.put, List.setIfInBounds_toArray, List.set_cons_zero, List.set_cons_succ, i64_w, i32_w]
    rfl
  refine take_ (i := 9) (N := some 25) (v := ?_) (a' := ?_) #[true, true, true, true, true, true, true, true, true, true, false, false, false, false, false, false, false, false, false, false, false, false, false] rfl rfl (by kernel_rfl) (fun _ _ _ h => h) (Or.inl ⟨by rfl, ?_⟩) hHeld ?_ ?_
  rotate_left
  · rintro w' ⟨s0, s1⟩
    go_simp
    with_reducible rfl
  rotate_left
  · simp only [Act.put, List.setIfInBounds_toArray, List.set_cons_zero, List.set_cons_succ, i64_w, i32_w]
    rfl
  refine take_ (i := 10) (N := some 26) (v := ?_) (a' := ?_) #[true, true, true, true, true, true, true, true, true, true, true, false, false, false, false, false, false, false, false, false, false, false, false] rfl rfl (by kernel_rfl) (fun _ _ _ h => h) (Or.inl ⟨by rfl, ?_⟩) hHeld ?_ ?_
  rotate_left
  · rintro w' ⟨s0, s1⟩
    go_simp
    with_reducible rfl
  rotate_left
  · simp only [Act.put, List.setIfInBounds_toArray, List.set_cons_zero, List.set_cons_succ, i64_w, i32_w]
    rfl
  refine one_ (i := 11) (N := some 27) #[true, true, true, true, true, true, true, true, true, true, true, true, false, false, false, false, false, false, false, false, false, false, false] rfl rfl (by kernel_rfl) (by decide) (fun K hK => ?_)
  refine goes_ Tryd.func57 (by kernel_rfl) rfl #[.pointer (some ⟨cb, 0, none⟩), .int .i64 b] (by rfl) rfl rfl (by simp only [List.map_toArray, List.map_cons, List.map_nil]; rfl) ?_
  with_reducible refine (KB.out w6 C5.out).mono ?_
  rintro e w7 ⟨rfl, rfl⟩
  refine ⟨_, rfl, ?_⟩
  refine hK.out _ _ ⟨z3, z0⟩ (fun hHeld => ?_)
  clear hK K
  refine norm_ (a' := ?_) ?_ ?_
  rotate_left
  · show Act.put _ (some 27) _ = _
    simp only [Act.put, List.setIfInBounds_toArray, List.set_cons_zero, List.set_cons_succ, i64_w, i32_w]
    rfl
  refine pure_ (i := 12) (N := some 28) (v := ?_) (a' := ?_) #[true, true, true, true, true, true, true, true, true, true, true, true, true, false, false, false, false, false, false, false, false, false, false] rfl rfl (by kernel_rfl) (fun _ _ _ h => h) (Or.inl ⟨by rfl, ?_⟩) ?_ ?_
  rotate_left
  · intro w'
    go_simp
    with_reducible rfl
  rotate_left
  · simp only [Act.put, List.setIfInBounds_toArray, List.set_cons_zero, List.set_cons_succ, i64_w, i32_w]
    rfl
  refine pure_ (i := 13) (N := some 29) (v := ?_) (a' := ?_) #[true, true, true, true, true, true, true, true, true, true, true, true, true, true, false, false, false, false, false, false, false, false, false] rfl rfl (by kernel_rfl) (fun _ _ _ h => h) (Or.inl ⟨by rfl, ?_⟩) ?_ ?_
  rotate_left
  · intro w'
    go_simp
    with_reducible rfl
  rotate_left
  · simp only [Act.put, List.setIfInBounds_toArray, List.set_cons_zero, List.set_cons_succ, i64_w, i32_w]
    rfl
  refine pure_ (i := 14) (N := some 30) (v := ?_) (a' := ?_) #[true, true, true, true, true, true, true, true, true, true, true, true, true, true, true, false, false, false, false, false, false, false, false] rfl rfl (by kernel_rfl) (fun _ _ _ h => h) (Or.inl ⟨by rfl, ?_⟩) ?_ ?_
  rotate_left
  · intro w'
    go_simp
    with_reducible rfl
  rotate_left
  · simp only [Act.put, List.setIfInBounds_toArray, List.set_cons_zero, List.set_cons_succ, i64_w, i32_w]
    rfl
  refine pure_ (i := 16) (N := some 32) (v := ?_) (a' := ?_) #[true, true, true, true, true, true, true, true, true, true, true, true, true, true, true, false, true, false, false, false, false, false, false] rfl rfl (by kernel_rfl) (fun _ _ _ h => h) (Or.inl ⟨by rfl, ?_⟩) ?_ ?_
  rotate_left
  · intro w'
    go_simp
    with_reducible rfl
  rotate_left
  · simp only [Act.put, List.setIfInBounds_toArray, List.set_cons_zero, List.set_cons_succ, i64_w, i32_w]
    rfl
  refine take_ (i := 15) (N := some 31) (v := ?_) (a' := ?_) #[true, true, true, true, true, true, true, true, true, true, true, true, true, true, true, true, true, false, false, false, false, false, false] rfl rfl (by kernel_rfl) (fun _ _ _ h => h) (Or.inl ⟨by rfl, ?_⟩) hHeld ?_ ?_
  rotate_left
  · rintro w' ⟨s0, s1⟩
    go_simp
    with_reducible rfl
  rotate_left
  · simp only [Act.put, List.setIfInBounds_toArray, List.set_cons_zero, List.set_cons_succ, i64_w, i32_w]
    rfl
  refine take_ (i := 18) (N := some 34) (v := ?_) (a' := ?_) #[true, true, true, true, true, true, true, true, true, true, true, true, true, true, true, true, true, false, true, false, false, false, false] rfl rfl (by kernel_rfl) (fun _ _ _ h => h) (Or.inl ⟨by rfl, ?_⟩) hHeld ?_ ?_
  rotate_left
  · rintro w' ⟨s0, s1⟩
    go_simp
    with_reducible rfl
  rotate_left
  · simp only [Act.put, List.setIfInBounds_toArray, List.set_cons_zero, List.set_cons_succ, i64_w, i32_w]
    rfl
  refine take_ (i := 19) (N := some 35) (v := ?_) (a' := ?_) #[true, true, true, true, true, true, true, true, true, true, true, true, true, true, true, true, true, false, true, true, false, false, false] rfl rfl (by kernel_rfl) (fun _ _ _ h => h) (Or.inl ⟨by rfl, ?_⟩) hHeld ?_ ?_
  rotate_left
  · rintro w' ⟨s0, s1⟩
    go_simp
    with_reducible rfl
  rotate_left
  · simp only [Act.put, List.setIfInBounds_toArray, List.set_cons_zero, List.set_cons_succ, i64_w, i32_w]
    rfl
  refine one_ (i := 17) (N := some 33) #[true, true, true, true, true, true, true, true, true, true, true, true, true, true, true, true, true, true, true, true, false, false, false] rfl rfl (by kernel_rfl) (by decide) (fun K hK => ?_)
  refine goes_ Tryd.func58 (by kernel_rfl) rfl #[.pointer (some ⟨cb, 0, none⟩), .int .i64 a] (by rfl) rfl rfl (by simp only [List.map_toArray, List.map_cons, List.map_nil]; rfl) ?_
  with_reducible refine (KTA.out w7 C5.out).mono ?_
  rintro e w8 ⟨rfl, rfl⟩
  refine ⟨_, rfl, ?_⟩
  refine hK.out _ _ ⟨z3, z0⟩ (fun hHeld => ?_)
  clear hK K
  refine norm_ (a' := ?_) ?_ ?_
  rotate_left
  · show Act.put _ (some 33) _ = _
    simp only [Act.put, List.setIfInBounds_toArray, List.set_cons_zero, List.set_cons_succ, i64_w, i32_w]
    rfl
  refine one_ (i := 20) (N := some 36) #[true, true, true, true, true, true, true, true, true, true, true, true, true, true, true, true, true, true, true, true, true, false, false] rfl rfl (by kernel_rfl) (by decide) (fun K hK => ?_)
  refine goes_ Tryd.func58 (by kernel_rfl) rfl #[.pointer (some ⟨cb, 0, none⟩), .int .i64 b] (by rfl) rfl rfl (by simp only [List.map_toArray, List.map_cons, List.map_nil]; rfl) ?_
  with_reducible refine (KTB.out w8 C5.out).mono ?_
  rintro e w9 ⟨rfl, rfl⟩
  refine ⟨_, rfl, ?_⟩
  refine hK.out _ _ ⟨z3, z0⟩ (fun hHeld => ?_)
  clear hK K
  refine norm_ (a' := ?_) ?_ ?_
  rotate_left
  · show Act.put _ (some 36) _ = _
    simp only [Act.put, List.setIfInBounds_toArray, List.set_cons_zero, List.set_cons_succ, i64_w, i32_w]
    rfl
  refine pure_ (i := 21) (N := some 37) (v := ?_) (a' := ?_) #[true, true, true, true, true, true, true, true, true, true, true, true, true, true, true, true, true, true, true, true, true, true, false] rfl rfl (by kernel_rfl) (fun _ _ _ h => h) (Or.inl ⟨by rfl, ?_⟩) ?_ ?_
  rotate_left
  · intro w'
    go_simp
    with_reducible rfl
  rotate_left
  · simp only [Act.put, List.setIfInBounds_toArray, List.set_cons_zero, List.set_cons_succ, i64_w, i32_w]
    rfl
  refine pure_ (i := 22) (N := some 38) (v := ?_) (a' := ?_) #[true, true, true, true, true, true, true, true, true, true, true, true, true, true, true, true, true, true, true, true, true, true, true] rfl rfl (by kernel_rfl) (fun _ _ _ h => h) (Or.inl ⟨by rfl, ?_⟩) ?_ ?_
  rotate_left
  · intro w'
    go_simp
    with_reducible rfl
  rotate_left
  · simp only [Act.put, List.setIfInBounds_toArray, List.set_cons_zero, List.set_cons_succ, i64_w, i32_w]
    rfl
  refine done_ (by kernel_rfl) ?_
  clear KA KB KTA KTB hHeld z3 z0 et
  have y3 : w9.cell? ⟨cx, 0, none⟩ = some (.pointer (some ⟨cb, 0, none⟩)) := (blk_cell J5.out.b3 0).trans rfl
  have y0 : w9.cell? ⟨w.heap.size, 0, none⟩ = some (.int .i64 b) := (blk_cell J5.out.b0 0).trans rfl
  have KV := sabove_calls cb a w9
  go_wp2_with fail
  refine KV.mono ?_
  rintro e w10 ⟨rfl, hw10⟩
  have hs10 : w10.heap.size = w9.heap.size + 1 + 1 := by rw [hw10]; simp
  have b10 : Below w9.heap.size w9 w10 := by rw [hw10]; exact ((Below.refl _ _).alloc (Nat.le_refl _) _).alloc (by simp) _
  have R10 : Aside0 (JR w w9 cb cx b w10) := ⟨⟨J5.out.below b10, by rw [hw10]; exact blk_alloc (blk_new w9 _) _, b10, blk_lt J5.out.b3, by rw [hs10]; omega⟩⟩
  have X10 : Aside0 (w10.heap[w9.heap.size + 1]? = some (.cells #[.int .i64 a] 3 (0, 0))) := ⟨by rw [hw10]; have h := blk_new (w9.alloc (.cells #[.pointer (some ⟨cb, 0, none⟩)] 99)) (.cells #[.int .i64 a] 3); rw [World.size_alloc] at h; exact h⟩
  have S10 := Aside0.mk hs10
  clear hw10 hs10 b10 KV y3 y0 J5
  go_wp2_with fail
  have HD9 := Aside0.mk (show cx < w9.heap.size from R10.out.cl)
  refine (wpIn_wide (n := 5)).1 ?_
  refine range_cell (gf := 75) (lb := #[.pointer (some ⟨w9.heap.size, 0, none⟩), .pointer (some ⟨w9.heap.size + 1, 0, none⟩)]) (nb := w9.heap.size + 1) rfl (fun args w => enters_ Tryd.func75 (by kernel_rfl) rfl args w) rfl
    (above_seq l HC.out cb w9.heap.size (w9.heap.size + 1) a a0 (isM_bounds YES.out.1).2 HLL.out 4) (by rw [S10.out]; omega) X10.out
    (fun p W => JR w w9 cb cx b W ∧ ∀ x ∈ p, heapM l b x = false)
    (JX l w cb cx b)
    (fun p => JR.stays (by rw [S10.out]; omega) _) (fun p W h => ⟨h.1.pb, C5.out.below h.1.be⟩)
    (fun c p W l_ o hl hlt h => ⟨h.1, by obtain ⟨p0, x, h1, h2, h3, h4⟩ := h.2; exact ⟨p0, x, h1, h2, h3, h4.put l_ o (by have := HD9.out; rw [S10.out] at hl; omega) hlt⟩⟩) ⟨R10.out, fun x hx => by cases hx⟩ ?a1 ?assign ?body ?done ?stop
  case assign =>
    intro rl x W K hK
    gi_wp2
    exact hK
  case body =>
    rintro rl p x W ⟨hJ, hp⟩ ⟨hx0, hx1⟩
    have JW := Aside0.mk hJ
    have HP := Aside0.mk hp
    have CW := Aside0.mk (C5.out.below hJ.be)
    have KH := sheap_calls l HC.out cb b x W CW.out HLL.out
    clear hJ hp
    have y3 : W.cell? ⟨cx, 0, none⟩ = some (.pointer (some ⟨cb, 0, none⟩)) := (blk_cell JW.out.j.b3 0).trans rfl
    have y0 : W.cell? ⟨w.heap.size, 0, none⟩ = some (.int .i64 b) := (blk_cell JW.out.j.b0 0).trans rfl
    gi_wp2_with fail
    refine ⟨trivial, (CallsIn.inRound rl (callsIn_wide.2 KH)).mono ?_⟩
    rintro e w2 ⟨rfl, hb2⟩
    have J2 : Aside0 (JR w w9 cb cx b w2) := ⟨⟨JW.out.j.below hb2, blk_below JW.out.pb hb2, JW.out.be.trans (hb2.mono JW.out.be.size), JW.out.cl, by have := JW.out.sz; have := hb2.size; omega⟩⟩
    have JJ : Aside0 (JB w cb cx b 0 false w2) := ⟨J2.out.j⟩
    have HB2 := Aside0.mk hb2
    have LT : Aside0 (w9.heap.size + 1 < W.heap.size) := ⟨JW.out.sz⟩
    clear hb2 KH y3 y0
    cases h3 : heapM l b x with
    | true =>
      have H3 := Aside0.mk h3
      clear h3
      have z1 : w2.cell? ⟨w.heap.size + 1, 0, none⟩ = some (.int .i64 0) := (blk_cell JJ.out.b1 0).trans rfl
      have z2 : w2.cell? ⟨w.heap.size + 1 + 1, 0, none⟩ = some (.bool false) := (blk_cell JJ.out.b2 0).trans rfl
      have f1 : w2.frozen? ⟨w.heap.size + 1, 0, none⟩ = false := blk_frozen JJ.out.b1 0
      have f2 : (w2.setCell ⟨w.heap.size + 1, 0, none⟩ (.int .i64 x)).frozen? ⟨w.heap.size + 1 + 1, 0, none⟩ = false := blk_frozen (JJ.out.st1 x).b2 0
      have y0' : (w2.setCell ⟨w.heap.size + 1, 0, none⟩ (.int .i64 x)).cell? ⟨w.heap.size, 0, none⟩ = some (.int .i64 b) := (blk_cell (JJ.out.st1 x).b0 0).trans rfl
      gi_wp2
      refine ⟨⟨?_, fun k hk1 hk2 => ?_⟩, rfl, p, x, rfl, HP.out, H3.out, (JJ.out.st1 x).st2 true⟩
      · have := HB2.out.size; simpa using this
      · rw [S10.out] at hk1
        have hcl := JW.out.cl
        have hcx := JJ.out.cxl
        exact (Below.heap_setCell _ ⟨w.heap.size + 1 + 1, 0, none⟩ _ k (by show k ≠ w.heap.size + 1 + 1; omega)).trans ((Below.heap_setCell _ ⟨w.heap.size + 1, 0, none⟩ _ k (by show k ≠ w.heap.size + 1; omega)).trans (HB2.out.block k hk2))
    | false =>
      have H3 := Aside0.mk h3
      clear h3
      gi_wp2
      refine ⟨⟨HB2.out.size, HB2.out.block _ LT.out, fun k _ hk2 => HB2.out.block k hk2⟩, J2.out, fun y hy => ?_⟩
      rcases List.mem_append.1 hy with hy | hy
      · exact HP.out y hy
      · rw [List.mem_singleton.1 hy]; exact H3.out
  case done =>
    rintro D p W hD rfl ⟨hJ, hp⟩ hK
    rw [S10.out] at hD
    have JW := Aside0.mk hJ
    have J9 : Aside0 (JB w cb cx b 0 false W) := ⟨hJ.j⟩
    have HP := Aside0.mk hp
    have CW := Aside0.mk (C5.out.below hJ.be)
    have HK := Aside0.mk hK
    have HDD := Aside0.mk hD
    have KK := skind_calls l cb a W CW.out a0 (isM_bounds YES.out.1).2
    have k0 := (startM_in YES.out.1)
    have ES : Aside0 (startM l a = kindOf l a) := ⟨by unfold startM; rw [if_pos a0]⟩
    have US : Aside0 (UpOn l b (startM l a) (kindOf l a)) := ⟨by rw [ES.out]; rw [ES.out] at k0; exact UpOn.start k0.1 k0.2 (by have := kindM_in (tyAt l a).f2.f0; unfold kindOf; omega) (by have h := YES.out.2.2; unfold topM at h; rw [ES.out] at h; exact h)⟩
    clear hJ hp hK hD k0
    have y3 : W.cell? ⟨cx, 0, none⟩ = some (.pointer (some ⟨cb, 0, none⟩)) := (blk_cell J9.out.b3 0).trans rfl
    have y0 : W.cell? ⟨w.heap.size, 0, none⟩ = some (.int .i64 b) := (blk_cell J9.out.b0 0).trans rfl
    go_wp2_with fail
    refine KK.mono ?_
    rintro e w14 ⟨rfl, rfl⟩
    clear KK
    go_wp2_with fail
    go_loopw [1] (fun v W => ∃ x, v = .int .i64 x ∧ UpOn l b (startM l a) x ∧ Below w14.heap.size w14 W) (fun v _ => (-(intOf v)).toNat)
    case atStart => exact ⟨kindOf l a, rfl, US.out, Below.refl _ _⟩
    case round =>
      obtain ⟨x, rfl, hu, hbw⟩ := hrel
      have HU := Aside0.mk hu
      have JR := Aside0.mk (J9.out.below hbw)
      have CR := Aside0.mk (CW.out.below hbw)
      have WR := Aside0.mk hbw
      have xl : -12 ≤ x := hu.lo
      have xn : x < 0 := hu.neg
      clear hu hbw y3 y0
      have y3 : wr.cell? ⟨cx, 0, none⟩ = some (.pointer (some ⟨cb, 0, none⟩)) := (blk_cell JR.out.b3 0).trans rfl
      have y0 : wr.cell? ⟨w.heap.size, 0, none⟩ = some (.int .i64 b) := (blk_cell JR.out.b0 0).trans rfl
      have KH := sheap_calls l HC.out cb b x wr CR.out HLL.out
      go_wp2_with fail
      refine KH.mono ?_
      rintro e w12 ⟨rfl, hbz⟩
      have JZ := Aside0.mk (JR.out.below hbz)
      have WZ := Aside0.mk (WR.out.trans (hbz.mono WR.out.size))
      clear hbz KH y3 y0
      cases h3 : heapM l b x with
      | true =>
        have H3 := Aside0.mk h3
        clear h3
        have z1 : w12.cell? ⟨w.heap.size + 1, 0, none⟩ = some (.int .i64 0) := (blk_cell JZ.out.b1 0).trans rfl
        have z2 : w12.cell? ⟨w.heap.size + 1 + 1, 0, none⟩ = some (.bool false) := (blk_cell JZ.out.b2 0).trans rfl
        have f1 : w12.frozen? ⟨w.heap.size + 1, 0, none⟩ = false := blk_frozen JZ.out.b1 0
        have f2 : (w12.setCell ⟨w.heap.size + 1, 0, none⟩ (.int .i64 x)).frozen? ⟨w.heap.size + 1 + 1, 0, none⟩ = false := blk_frozen (JZ.out.st1 x).b2 0
        have y0' : (w12.setCell ⟨w.heap.size + 1, 0, none⟩ (.int .i64 x)).cell? ⟨w.heap.size, 0, none⟩ = some (.int .i64 b) := (blk_cell (JZ.out.st1 x).b0 0).trans rfl
        have KD : ((w12.setCell ⟨w.heap.size + 1, 0, none⟩ (.int .i64 x)).setCell ⟨w.heap.size + 1 + 1, 0, none⟩ (.bool true)).heap[D]? = some (.deferred (some [])) := (Below.heap_setCell _ ⟨w.heap.size + 1 + 1, 0, none⟩ _ D (by have := HD9.out; have := JZ.out.cxl; have := HDD.out; show D ≠ w.heap.size + 1 + 1; omega)).trans ((Below.heap_setCell _ ⟨w.heap.size + 1, 0, none⟩ _ D (by have := HD9.out; have := JZ.out.cxl; have := HDD.out; show D ≠ w.heap.size + 1; omega)).trans (blk_below HK.out WZ.out))
        have JE := ((JZ.out.st1 x).st2 true).put D (.deferred none) (by have := HD9.out; have := HDD.out; omega) (blk_lt' KD)
        have KDA := Aside0.mk KD
        clear KD
        have JEA := Aside0.mk JE
        clear JE
        go_wp2_with fail
        refine ⟨by simp, .inl ⟨_, _, rfl, run_takeDeferred KDA.out, ?_⟩⟩
        exact ⟨.tuple #[.int .i64 x, .bool true], JEA.out.fin rfl rfl, x, true, rfl, .inr ⟨rfl, YES.out, .inr (.inl ⟨SG.out.1, SG.out.2, HP.out, HU.out.done H3.out⟩)⟩, JEA.out.bel⟩
      | false =>
        have US2 := Aside0.mk (HU.out.step YES.out.2.1 (startM_in YES.out.1).1 (startM_in YES.out.1).2 h3)
        have KU := sup_calls x w12 xl (by omega)
        clear h3
        go_wp2_with fail
        refine KU.mono ?_
        rintro e w13 ⟨rfl, rfl⟩
        clear KU
        go_wp2_with fail
        go_roundw
        case rel => exact ⟨upH x, rfl, US2.out.1, WZ.out⟩
        case measure => have := US2.out.2; have := US2.out.1.neg; simp [intOf]; omega
  case stop =>
    rintro D c p W hD ⟨t, ht⟩ ⟨rfl, p0, x, hpx, hp0, hbx, hB⟩ hK
    rw [S10.out] at hD
    have JE := hB.put D (.deferred none) (by have := HD9.out; omega) (blk_lt' hK)
    refine wpIn_wide.2 ?_
    go_wp2_with fail
    refine ⟨by simp, .inl ⟨_, _, rfl, run_takeDeferred hK, ?_⟩⟩
    exact ⟨.tuple #[.int .i64 x, .bool true], JE.fin rfl rfl, x, true, rfl, .inr ⟨rfl, YES.out, .inl ⟨SG.out.1, SG.out.2, p0, t, by rw [hpx] at ht; unfold ch; rw [← ht]; simp, hp0, hbx⟩⟩, JE.bel⟩
theorem SJoin_yes (A : Option Addr) (c : Nat) (l : List S62) (a b : Int) (w : World) (hl : LA w A c l) (hc : Clo l) (htab : Lib.TabBelow Tryd.prog w.heap.size w "internal/strconv.uint64pow10" .u64 Lib.pow10Tab) :
    Calls Tryd.prog 34 #[.slice A l.length c, .int .i64 a, .int .i64 b] w fun e w' => ∃ h ok, e = .returned (.tuple #[.int .i64 h, .bool ok]) ∧ JoinOut l a b h ok ∧ Below w.heap.size w w' := by
  by_cases h : (isM l a = true ∧ isM l b = true ∧ topM l a = topM l b) ∧ 0 ≤ a ∧ 0 ≤ b
  · exact sjoin_two A c l a b w hl hc htab h.1.1 h.1.2.1 h.1.2.2 h.2.1 h.2.2
  · exact sjoin_plain A c l a b w hl hc htab h
end Go.Proofs.YtfgglniigeagdaaDoor.Cn
namespace Go.Proofs.YtfgglniigeagdaaDoor.Cn
set_option linter.unusedSimpArgs false
set_option linter.unusedVariables false
open Go.RowKit Go.Maps Go.Proofs.YtfgglniigeagdaaDoorW.PrintWords Go.Proofs.YtfgglniigeagdaaDoorW.PrintLast Go.Proofs.YtfgglniigeagdaaDoorW.PrintMore Go.Proofs.YtfgglniigeagdaaDoor.QD
set_option maxRecDepth 100000 in
set_option maxHeartbeats 8000000 in
theorem subMeets_calls (A : Option Addr) (c : Nat) (l : List S62) (a b d : Int) (w : World) (hl : LA w A c l) (htab : Lib.TabBelow Tryd.prog w.heap.size w "internal/strconv.uint64pow10" .u64 Lib.pow10Tab) :
    Calls Tryd.prog 9 #[.slice A l.length c, .int .i64 a, .int .i64 b, .int .i64 d] w fun e w' => e = .returned (.bool true) ∧ Below w.heap.size w w' := by
  have HL := Aside0.mk hl
  have HT := Aside0.mk htab
  by_cases hc : Clo l
  · have HC := Aside0.mk hc
    have K := r7Decl_yes A c l w hl hc
    have htl : tcount l ≤ 1048576 := by have := hl.flat_le; rw [flat_length] at this; exact this
    have HTL := Aside0.mk htl
    have KH : Aside0 (∀ (x y : Int) (W : World), Below w.heap.size w W → Calls Tryd.prog 31 #[.slice A l.length c, .int .i64 x, .int .i64 y] W fun e w' => e = .returned (.bool (heapM l x y)) ∧ Below W.heap.size W w') :=
      ⟨fun x y W hb => SHeap_yes A c l x y W (hl.below hb) hc (tab_mono (htab.on hb) hb.size)⟩
    clear hl htab hc htl
    go_enter Tryd.func9, Tryd.ntmps9
    go_wp2_with fail
    refine K.mono ?_
    rintro e w1 ⟨n1, er, rfl, ho, hb⟩
    have B1 := Aside0.mk hb
    have HO := Aside0.mk ho
    clear hb ho K
    by_cases he : er = 0
    rotate_left
    · have hne : (er != 0) = true := by simp [he]
      have AW := awake_calls w1 (tab_mono (HT.out.on B1.out) B1.out.size)
      clear he
      go_wp2_with fail
      refine AW.mono ?_
      rintro e w3 ⟨rfl, hb⟩
      have B3 := Aside0.mk (B1.out.trans (hb.mono B1.out.size))
      clear hb AW
      go_wp2_with fail
      go_ret
      exact ⟨rfl, B3.out⟩
    subst he
    have VL : Aside0 (Valid l) := ⟨by
      rcases HO.out with ⟨_, _, h⟩ | ⟨_, _, _, h, _⟩
      · exact h
      · exact absurd rfl h⟩
    have KJ := SJoin_yes A c l a b w1 (HL.out.below B1.out) HC.out (tab_mono (HT.out.on B1.out) B1.out.size)
    clear HO
    go_wp2_with fail
    refine KJ.mono ?_
    rintro e w2 ⟨h, ok, rfl, hj, hb⟩
    have B2 := Aside0.mk (B1.out.trans (hb.mono B1.out.size))
    have HJ := Aside0.mk hj
    clear hb hj KJ
    cases ok with
    | false =>
      have ML := Aside0.mk (meets_no HC.out HTL.out VL.out HJ.out d)
      have K1 := KH.out a b w2 B2.out
      rw [ML.out.1] at K1
      go_wp2_with fail
      refine K1.mono ?_
      rintro e w3 ⟨rfl, hb⟩
      have B3 := Aside0.mk (B2.out.trans (hb.mono B2.out.size))
      clear hb K1
      have K2 := KH.out a d w3 B3.out
      obtain ⟨v1, hv1⟩ : ∃ v, v = heapM l a d := ⟨_, rfl⟩
      rw [← hv1] at K2 ML
      clear hv1
      cases v1 with
      | false =>
        go_wp2_with fail
        refine K2.mono ?_
        rintro e w4 ⟨rfl, hb⟩
        have B4 := Aside0.mk (B3.out.trans (hb.mono B3.out.size))
        clear hb K2
        go_wp2_with fail
        go_ret
        exact ⟨rfl, B4.out⟩
      | true =>
        go_wp2_with fail
        refine K2.mono ?_
        rintro e w4 ⟨rfl, hb⟩
        have B4 := Aside0.mk (B3.out.trans (hb.mono B3.out.size))
        clear hb K2
        have K3 := KH.out b d w4 B4.out
        have e3 : heapM l b d = false := by simpa using ML.out.2
        rw [e3] at K3
        clear e3
        go_wp2_with fail
        refine K3.mono ?_
        rintro e w5 ⟨rfl, hb⟩
        have B5 := Aside0.mk (B4.out.trans (hb.mono B4.out.size))
        clear hb K3
        go_wp2_with fail
        go_ret
        exact ⟨rfl, B5.out⟩
    | true =>
      have MY := Aside0.mk (meets_yes HC.out HTL.out VL.out HJ.out)
      have K1 := KH.out a h w2 B2.out
      rw [MY.out.1] at K1
      go_wp2_with fail
      refine K1.mono ?_
      rintro e w3 ⟨rfl, hb⟩
      have B3 := Aside0.mk (B2.out.trans (hb.mono B2.out.size))
      clear hb K1
      have K2 := KH.out b h w3 B3.out
      rw [MY.out.2.1] at K2
      go_wp2_with fail
      refine K2.mono ?_
      rintro e w4 ⟨rfl, hb⟩
      have B4 := Aside0.mk (B3.out.trans (hb.mono B3.out.size))
      clear hb K2
      have K3 := KH.out a d w4 B4.out
      have ML := Aside0.mk (MY.out.2.2 d)
      obtain ⟨v1, hv1⟩ : ∃ v, v = heapM l a d := ⟨_, rfl⟩
      rw [← hv1] at K3 ML
      clear hv1
      cases v1 with
      | false =>
        go_wp2_with fail
        refine K3.mono ?_
        rintro e w5 ⟨rfl, hb⟩
        have B5 := Aside0.mk (B4.out.trans (hb.mono B4.out.size))
        clear hb K3
        go_wp2_with fail
        go_ret
        exact ⟨rfl, B5.out⟩
      | true =>
        go_wp2_with fail
        refine K3.mono ?_
        rintro e w5 ⟨rfl, hb⟩
        have B5 := Aside0.mk (B4.out.trans (hb.mono B4.out.size))
        clear hb K3
        have K4 := KH.out b d w5 B5.out
        obtain ⟨v2, hv2⟩ : ∃ v, v = heapM l b d := ⟨_, rfl⟩
        rw [← hv2] at K4 ML
        clear hv2
        cases v2 with
        | false =>
          go_wp2_with fail
          refine K4.mono ?_
          rintro e w6 ⟨rfl, hb⟩
          have B6 := Aside0.mk (B5.out.trans (hb.mono B5.out.size))
          clear hb K4
          go_wp2_with fail
          go_ret
          exact ⟨rfl, B6.out⟩
        | true =>
          go_wp2_with fail
          refine K4.mono ?_
          rintro e w6 ⟨rfl, hb⟩
          have B6 := Aside0.mk (B5.out.trans (hb.mono B5.out.size))
          clear hb K4
          have K5 := KH.out h d w6 B6.out
          rw [ML.out (by first | rfl | trivial) (by first | rfl | trivial)] at K5
          go_wp2_with fail
          refine K5.mono ?_
          rintro e w7 ⟨rfl, hb⟩
          have B7 := Aside0.mk (B6.out.trans (hb.mono B6.out.size))
          clear hb K5
          go_wp2_with fail
          go_ret
          exact ⟨rfl, B7.out⟩
  · have K := r7Decl_no A c l w hl hc
    clear hl htab hc
    go_enter Tryd.func9, Tryd.ntmps9
    go_wp2_with fail
    refine K.mono ?_
    rintro e w1 ⟨n1, rfl, _, hb⟩
    have B1 := Aside0.mk hb
    clear hb K
    go_wp2_with fail
    refine (awake_calls w1 (tab_mono (HT.out.on B1.out) B1.out.size)).mono ?_
    rintro e w3 ⟨rfl, hb⟩
    have B3 := Aside0.mk (B1.out.trans (hb.mono B1.out.size))
    clear hb
    go_wp2_with fail
    go_ret
    exact ⟨rfl, B3.out⟩
end Go.Proofs.YtfgglniigeagdaaDoor.Cn
