/- CanonTurns, walked. (Printed by wip/gen_turns.py.) -/
import Derived.Test.YtfgglniigeagdaaDoorOne
import Derived.Test.YtfgglniigeagdaaDoorLst
import Derived.Test.YtfgglniigeagdaaDoorPL6ints
namespace Go.Proofs.YtfgglniigeagdaaDoor.Cn
set_option linter.unusedSimpArgs false
set_option linter.unusedVariables false
open Go.RowKit Go.Maps Go.Proofs.YtfgglniigeagdaaDoorW.PrintWords Go.Proofs.YtfgglniigeagdaaDoorW.PrintLast Go.Proofs.YtfgglniigeagdaaDoorW.PrintMore Go.Proofs.YtfgglniigeagdaaDoor.QD
theorem addTo_le (most : Int) (l : List S62) : ∀ (gs gs' : List (List S53)) (ids ids' : List Int), addTo most (gs, ids) l = some (gs', ids') → manyOf gs' ≤ manyOf gs + tcount l ∧ gs'.length ≤ gs.length + l.length ∧ ids'.length = ids.length + tcount l := by
  induction l with
  | nil =>
    intro gs gs' ids ids' h
    simp only [addTo, Option.some.injEq, Prod.mk.injEq] at h
    obtain ⟨rfl, rfl⟩ := h
    exact ⟨by simp [tcount], by simp, by simp [tcount]⟩
  | cons r l ih =>
    intro gs gs' ids ids' h
    have ht : tcount (r :: l) = r.f0.length + tcount l := by simp [tcount]
    simp only [addTo] at h
    cases hs : addStep most (gs, ids) r with
    | none => rw [hs] at h; cases h
    | some st =>
      obtain ⟨gs1, ids1⟩ := st
      rw [hs] at h
      simp only [Option.bind_some] at h
      obtain ⟨h1, h2, h3⟩ := ih gs1 gs' ids1 ids' h
      unfold addStep at hs
      dsimp only at hs
      cases hf : findK gs (ownG ids r) with
      | some i =>
        rw [hf] at hs
        simp only [Option.some.injEq, Prod.mk.injEq] at hs
        obtain ⟨rfl, rfl⟩ := hs
        rw [List.length_append, idsFrom_length, ownG_length] at h3
        exact ⟨by omega, by simp; omega, by omega⟩
      | none =>
        rw [hf] at hs
        dsimp only at hs
        split at hs
        · cases hs
        · simp only [Option.some.injEq, Prod.mk.injEq] at hs
          obtain ⟨rfl, rfl⟩ := hs
          rw [manyOf_snoc, ownG_length] at h1
          rw [List.length_append, idsFrom_length, ownG_length] at h3
          rw [List.length_append, List.length_singleton] at h2
          exact ⟨by omega, by simp; omega, by omega⟩
theorem oneM_bad {a b : List S62} {x y : Int} (h : ¬ (Clo a ∧ Clo b ∧ 0 ≤ x ∧ x < tcount a ∧ 0 ≤ y ∧ y < tcount b)) : ∃ k : Int, oneM a b x y = (false, k) ∧ (k = 1 ∨ k = 50) := by
  unfold oneM
  by_cases hc : Clo a ∧ Clo b
  · rw [if_pos hc, if_neg (fun hr => h ⟨hc.1, hc.2, hr⟩)]
    exact ⟨1, rfl, .inl rfl⟩
  · rw [if_neg hc]
    exact ⟨50, rfl, .inr rfl⟩
theorem oneM_ok {a b : List S62} {x y : Int} (ca : Clo a) (cb : Clo b) (h : 0 ≤ x ∧ x < tcount a ∧ 0 ≤ y ∧ y < tcount b) : oneM a b x y = (rd (oneIds a b).1 x == rd (oneIds a b).2 y, 0) := by
  unfold oneM
  rw [if_pos ⟨ca, cb⟩, if_pos h]
/-- The ids of one list, in a table of its own. -/
theorem oneIds_self {l : List S62} (ht : tcount l ≤ 1048576) : ∃ g1 i1, addTo 9223372036854775807 ([], []) l = some (g1, i1) ∧ oneIds l l = (i1, i1) := by
  obtain ⟨g1, i1, h1, _, _, _⟩ := addTo_room 9223372036854775807 l [] [] (by simp [manyOf]; omega)
  have h2 := addTo_again 9223372036854775807 9223372036854775807 l [] g1 i1 h1 Dist.nil
  refine ⟨g1, i1, h1, ?_⟩
  unfold oneIds
  rw [h1]
  dsimp only
  rw [h2]
theorem one_calls' (A1 : Option Addr) (c1 : Nat) (a : List S62) (A2 : Option Addr) (c2 : Nat) (b : List S62) (x y : Int) (w : World) (ha : LA w A1 c1 a) (hb : LA w A2 c2 b) (htab : Lib.TabBelow Tryd.prog w.heap.size w "internal/strconv.uint64pow10" .u64 Lib.pow10Tab) :
    Calls Tryd.prog 15 #[.slice A1 a.length c1, .slice A2 b.length c2, .int .i64 x, .int .i64 y] w fun e w' => e = .returned (.tuple #[.bool (oneM a b x y).1, .int .i64 (oneM a b x y).2]) ∧ Below w.heap.size w w' :=
  one_calls A1 c1 a A2 c2 b x y w ha.C ha.cap hb.C hb.cap (sok_all (by have := ha.w; omega)) (sok_all (by have := hb.w; omega)) (rin_all (by have := ha.w; omega) ha.inn) (rin_all (by have := hb.w; omega) hb.inn) (by have := ha.w; omega) (by have := hb.w; omega) (by have := ha.w; omega) (by have := hb.w; omega) htab
set_option maxRecDepth 100000 in
theorem same_calls (A : Option Addr) (c : Nat) (l : List S62) (x y : Int) (w : World) (hl : LA w A c l) (htab : Lib.TabBelow Tryd.prog w.heap.size w "internal/strconv.uint64pow10" .u64 Lib.pow10Tab) (b : Bool) (k : Int) (hone : oneM l l x y = (b, k)) :
    Calls Tryd.prog 12 #[.slice A l.length c, .int .i64 x, .int .i64 y] w fun e w' => e = .returned (.tuple #[.bool b, .int .i64 k]) ∧ Below w.heap.size w w' := by
  have K := Aside0.mk (one_calls' A c l A c l x y w hl hl htab)
  rw [hone] at K
  clear hl htab hone
  go_enter Tryd.func12, Tryd.ntmps12
  go_wp2_with fail
  refine K.out.mono ?_
  rintro e w1 ⟨rfl, hb1⟩
  have HB1 := Aside0.mk hb1
  clear hb1 K
  go_wp2_with fail
  go_ret2
  exact ⟨rfl, HB1.out⟩
/-- Adding to a table without groups: whatever comes of it, a table is left. -/
theorem tadd_first (B g b : Nat) (D : DataW Unit) (A : Option Addr) (c : Nat) (l : List S62) (w : World) (hT : TB B g 47 [.bool true] (fun _ => True) [] (.slice none 0 0) b D w) (hB : B ≤ w.heap.size) (hl : LA w A c l)
    (hLR : ∀ g' b' w1, Below w.heap.size w w1 → w.heap.size ≤ g' → w.heap.size ≤ b' → LR (fun W => FrA B g' b' w1 W) A l) :
    Calls Tryd.prog 19 #[.pointer (some ⟨g, 0, none⟩), .slice A l.length c] w fun e w' => ∃ x0 x1 x2 gs v b' D', e = .returned (.tuple #[x0, x1, x2]) ∧ TB B g 47 [.bool true] (fun _ => True) gs v b' D' w' ∧ Below B w w' ∧ manyOf gs ≤ 1048576 ∧ gs.length ≤ 1048576 := by
  have hw := hl.w
  have htc := tcount_le_wL l
  refine (tadd_calls B g b [] (.slice none 0 0) D A c l w hT hB hl.C hl.cap hLR (sok_all (by omega)) (rin_all (by omega) hl.inn) (by omega) (by omega) (by simp [manyOf]) (by simp)).mono ?_
  intro e w' hout
  unfold TAddOut at hout
  rcases hout with ⟨_, n, rfl, hb⟩ | ⟨_, hout⟩
  · exact ⟨_, _, _, [], _, _, _, rfl, hT.below hb hB, hb.mono hB, by simp [manyOf], by simp⟩
  · cases hst : addTo 10000 ([], []) l with
    | none =>
      rw [hst] at hout
      obtain ⟨⟨n, rfl⟩, hf⟩ := hout
      refine ⟨_, _, _, [], .slice none 0 0, b, D, rfl, ?_, hf.bel, by simp [manyOf], by simp⟩
      obtain ⟨es, clock, hm, hr⟩ := hT.map
      refine ⟨hf.oth g _ hT.box (by have := blk_lt hT.box; omega) (by have := blk_lt hT.box; omega) (fun c_ fz_ e_ => by injection e_ with _ e_; exact absurd e_ (by decide)), Kd.R_nil _ _ _ _ _, ⟨es, clock, ?_, hr⟩, hT.pm, hT.hg, hT.hb, hT.tab.on hf.bel⟩
      exact hf.oth b _ hm (by have := (Array.getElem?_eq_some_iff.1 hm).1; omega) (by have := (Array.getElem?_eq_some_iff.1 hm).1; omega) (fun c_ fz_ e_ => by cases e_)
    | some st =>
      obtain ⟨gs', ids⟩ := st
      rw [hst] at hout
      obtain ⟨vi, v', b', D', rfl, ht, hi, hf⟩ := hout
      have hle := addTo_le 10000 l [] gs' [] ids hst
      have e0 : manyOf [] = 0 := rfl
      have e1 : ([] : List (List S53)).length = 0 := rfl
      rw [e0, e1] at hle
      exact ⟨_, _, _, gs', v', b', D', rfl, ht.weak (fun _ _ => trivial), hf.bel, by omega, by omega⟩
theorem ints_l0 (l : List Int) (m j : Nat) (h : j + m = l.length) (hl : l.length ≤ 1099511627776) : ratchetlaw06_ints.l0 (m + 1) l l (j : Int) = some true := by
  induction m generalizing j with
  | zero =>
    have hj : ¬ ((j : Int) < (l.length : Int)) := by omega
    rw [ratchetlaw06_ints.l0, if_neg hj]
  | succ m ih =>
    have h1 : (j : Int) < (l.length : Int) := by omega
    have h2 : (0 : Int) ≤ (j : Int) := by omega
    have w2 : wrap64 ((j : Int) + 1) = ((j + 1 : Nat) : Int) := by unfold wrap64; omega
    rw [ratchetlaw06_ints.l0]
    simp only [h1, h2, if_true, w2, ih (j + 1) (by omega)]
theorem ints_refl (l : List Int) (hl : l.length ≤ 1099511627776) : ratchetlaw06_ints.f (l.length + 1) l l = some true := by
  unfold ratchetlaw06_ints.f
  rw [if_pos rfl]
  exact ints_l0 l l.length 0 (by omega) hl
set_option maxRecDepth 100000 in
set_option maxHeartbeats 8000000 in
theorem turns_no1 (A0 : Option Addr) (c0 : Nat) (l : List S62) (A1 : Option Addr) (c1 : Nat) (more : List S62) (x y z : Int) (w : World) (hl : LA w A0 c0 l) (hm : LA w A1 c1 more) (htab : Lib.TabBelow Tryd.prog w.heap.size w "internal/strconv.uint64pow10" .u64 Lib.pow10Tab) (b2 b3 b4 : Bool) (k1 k2 k3 k4 : Int) (h1 : Aside0 (oneM l l x y = (false, k1))) (hk1 : k1 = 1 ∨ k1 = 50) (h2 : Aside0 (oneM l l y x = (b2, k2))) (h3 : Aside0 (oneM l l y z = (b3, k3))) (h4 : Aside0 (oneM l l x z = (b4, k4))) :
    Calls Tryd.prog 4 #[.slice A0 l.length c0, .slice A1 more.length c1, .agg #[.int .i64 x, .int .i64 y, .int .i64 z]] w fun e w' => e = .returned (.bool true) ∧ Below w.heap.size w w' := by
  rcases hk1 with rfl | rfl
  · have HL := Aside0.mk hl
    have HM := Aside0.mk hm
    have HTAB := Aside0.mk htab
    clear hl hm htab
    go_enter Tryd.func4, Tryd.ntmps4
    go_wp2_with fail
    have ba : Below w.heap.size w (w.alloc (.cells #[.int .i64 x, .int .i64 y, .int .i64 z] 33)) := (Below.refl _ _).alloc (Nat.le_refl _) _
    refine (alive_calls _ (tab_mono (HTAB.out.on ba) ba.size)).mono ?_
    rintro e w1 ⟨rfl, hb1⟩
    have X1 := Aside0.mk (blk_below (blk_new w (.cells #[.int .i64 x, .int .i64 y, .int .i64 z] 33)) hb1)
    have B1 : Aside0 (Below w.heap.size w w1) := ⟨ba.trans (hb1.mono ba.size)⟩
    clear ba hb1
    go_wp2_with fail
    refine start_ (n := 9) (S := fun w' => w'.cell? ⟨w.heap.size, 0, none⟩ = some (.int .i64 x) ∧ w'.cell? ⟨w.heap.size, 1, none⟩ = some (.int .i64 y) ∧ w'.cell? ⟨w.heap.size, 2, none⟩ = some (.int .i64 z)) (ds := []) #[false, false, false, false, false, false, false, false, false] (by kernel_rfl) rfl rfl ⟨(blk_cell X1.out 0).trans rfl, (blk_cell X1.out 1).trans rfl, (blk_cell X1.out 2).trans rfl⟩ (fun hHeld => ?_)
    refine pure_ (i := 0) (N := some 27) (v := ?_) (a' := ?_) #[true, false, false, false, false, false, false, false, false] rfl rfl (by kernel_rfl) (fun _ _ _ h => h) (Or.inl ⟨by rfl, ?_⟩) ?_ ?_
    rotate_left
    · intro w'
      go_simp
      with_reducible rfl
    rotate_left
    · simp only [Act.put, List.setIfInBounds_toArray, List.set_cons_zero, List.set_cons_succ, i64_w, i32_w]
      rfl
    refine pure_ (i := 2) (N := some 29) (v := ?_) (a' := ?_) #[true, false, true, false, false, false, false, false, false] rfl rfl (by kernel_rfl) (fun _ _ _ h => h) (Or.inl ⟨by rfl, ?_⟩) ?_ ?_
    rotate_left
    · intro w'
      go_simp
      with_reducible rfl
    rotate_left
    · simp only [Act.put, List.setIfInBounds_toArray, List.set_cons_zero, List.set_cons_succ, i64_w, i32_w]
      rfl
    refine pure_ (i := 4) (N := some 31) (v := ?_) (a' := ?_) #[true, false, true, false, true, false, false, false, false] rfl rfl (by kernel_rfl) (fun _ _ _ h => h) (Or.inl ⟨by rfl, ?_⟩) ?_ ?_
    rotate_left
    · intro w'
      go_simp
      with_reducible rfl
    rotate_left
    · simp only [Act.put, List.setIfInBounds_toArray, List.set_cons_zero, List.set_cons_succ, i64_w, i32_w]
      rfl
    refine take_ (i := 1) (N := some 28) (v := ?_) (a' := ?_) #[true, true, true, false, true, false, false, false, false] rfl rfl (by kernel_rfl) (fun _ _ _ h => h) (Or.inl ⟨by rfl, ?_⟩) hHeld ?_ ?_
    rotate_left
    · rintro w' ⟨s0, s1, s2⟩
      go_simp
      with_reducible rfl
    rotate_left
    · simp only [Act.put, List.setIfInBounds_toArray, List.set_cons_zero, List.set_cons_succ, i64_w, i32_w]
      rfl
    refine pure_ (i := 6) (N := some 7) (v := ?_) (a' := ?_) #[true, true, true, false, true, false, true, false, false] rfl rfl (by kernel_rfl) (fun _ _ _ h => h) (Or.inl ⟨by rfl, ?_⟩) ?_ ?_
    rotate_left
    · intro w'
      go_simp
      with_reducible rfl
    rotate_left
    · simp only [Act.put, List.setIfInBounds_toArray, List.set_cons_zero, List.set_cons_succ, i64_w, i32_w]
      rfl
    refine take_ (i := 3) (N := some 30) (v := ?_) (a' := ?_) #[true, true, true, true, true, false, true, false, false] rfl rfl (by kernel_rfl) (fun _ _ _ h => h) (Or.inl ⟨by rfl, ?_⟩) hHeld ?_ ?_
    rotate_left
    · rintro w' ⟨s0, s1, s2⟩
      go_simp
      with_reducible rfl
    rotate_left
    · simp only [Act.put, List.setIfInBounds_toArray, List.set_cons_zero, List.set_cons_succ, i64_w, i32_w]
      rfl
    refine pure_ (i := 7) (N := some 8) (v := ?_) (a' := ?_) #[true, true, true, true, true, false, true, true, false] rfl rfl (by kernel_rfl) (fun _ _ _ h => h) (Or.inl ⟨by rfl, ?_⟩) ?_ ?_
    rotate_left
    · intro w'
      go_simp
      with_reducible rfl
    rotate_left
    · simp only [Act.put, List.setIfInBounds_toArray, List.set_cons_zero, List.set_cons_succ, i64_w, i32_w]
      rfl
    refine take_ (i := 5) (N := some 32) (v := ?_) (a' := ?_) #[true, true, true, true, true, true, true, true, false] rfl rfl (by kernel_rfl) (fun _ _ _ h => h) (Or.inl ⟨by rfl, ?_⟩) hHeld ?_ ?_
    rotate_left
    · rintro w' ⟨s0, s1, s2⟩
      go_simp
      with_reducible rfl
    rotate_left
    · simp only [Act.put, List.setIfInBounds_toArray, List.set_cons_zero, List.set_cons_succ, i64_w, i32_w]
      rfl
    refine pure_ (i := 8) (N := some 9) (v := ?_) (a' := ?_) #[true, true, true, true, true, true, true, true, true] rfl rfl (by kernel_rfl) (fun _ _ _ h => h) (Or.inl ⟨by rfl, ?_⟩) ?_ ?_
    rotate_left
    · intro w'
      go_simp
      with_reducible rfl
    rotate_left
    · simp only [Act.put, List.setIfInBounds_toArray, List.set_cons_zero, List.set_cons_succ, i64_w, i32_w]
      rfl
    refine done_ (by kernel_rfl) ?_
    
    have B2 : Aside0 (Below w.heap.size w w1.drew) := ⟨B1.out.drew⟩
    generalize w1.drew = w2 at B2 ⊢
    clear X1 B1
    go_wp2_with fail
    refine (same_calls A0 c0 l x y w2 (HL.out.below B2.out) (tab_mono (HTAB.out.on B2.out) B2.out.size) false 1 h1.out).mono ?_
    rintro e w3 ⟨rfl, hb3⟩
    have B3 := Aside0.mk (B2.out.trans (hb3.mono B2.out.size))
    clear hb3
    go_wp2_with fail
    refine (same_calls A0 c0 l y x w3 (HL.out.below B3.out) (tab_mono (HTAB.out.on B3.out) B3.out.size) b2 k2 h2.out).mono ?_
    rintro e w4 ⟨rfl, hb4⟩
    have B4 := Aside0.mk (B3.out.trans (hb4.mono B3.out.size))
    clear hb4
    go_wp2_with fail
    refine (same_calls A0 c0 l y z w4 (HL.out.below B4.out) (tab_mono (HTAB.out.on B4.out) B4.out.size) b3 k3 h3.out).mono ?_
    rintro e w5 ⟨rfl, hb5⟩
    have B5 := Aside0.mk (B4.out.trans (hb5.mono B4.out.size))
    clear hb5
    go_wp2_with fail
    refine (same_calls A0 c0 l x z w5 (HL.out.below B5.out) (tab_mono (HTAB.out.on B5.out) B5.out.size) b4 k4 h4.out).mono ?_
    rintro e w6 ⟨rfl, hb6⟩
    have B6 := Aside0.mk (B5.out.trans (hb6.mono B5.out.size))
    clear hb6
    go_wp2_with fail
    go_ret
    exact ⟨rfl, B6.out⟩
  · have HL := Aside0.mk hl
    have HM := Aside0.mk hm
    have HTAB := Aside0.mk htab
    clear hl hm htab
    go_enter Tryd.func4, Tryd.ntmps4
    go_wp2_with fail
    have ba : Below w.heap.size w (w.alloc (.cells #[.int .i64 x, .int .i64 y, .int .i64 z] 33)) := (Below.refl _ _).alloc (Nat.le_refl _) _
    refine (alive_calls _ (tab_mono (HTAB.out.on ba) ba.size)).mono ?_
    rintro e w1 ⟨rfl, hb1⟩
    have X1 := Aside0.mk (blk_below (blk_new w (.cells #[.int .i64 x, .int .i64 y, .int .i64 z] 33)) hb1)
    have B1 : Aside0 (Below w.heap.size w w1) := ⟨ba.trans (hb1.mono ba.size)⟩
    clear ba hb1
    go_wp2_with fail
    refine start_ (n := 9) (S := fun w' => w'.cell? ⟨w.heap.size, 0, none⟩ = some (.int .i64 x) ∧ w'.cell? ⟨w.heap.size, 1, none⟩ = some (.int .i64 y) ∧ w'.cell? ⟨w.heap.size, 2, none⟩ = some (.int .i64 z)) (ds := []) #[false, false, false, false, false, false, false, false, false] (by kernel_rfl) rfl rfl ⟨(blk_cell X1.out 0).trans rfl, (blk_cell X1.out 1).trans rfl, (blk_cell X1.out 2).trans rfl⟩ (fun hHeld => ?_)
    refine pure_ (i := 0) (N := some 27) (v := ?_) (a' := ?_) #[true, false, false, false, false, false, false, false, false] rfl rfl (by kernel_rfl) (fun _ _ _ h => h) (Or.inl ⟨by rfl, ?_⟩) ?_ ?_
    rotate_left
    · intro w'
      go_simp
      with_reducible rfl
    rotate_left
    · simp only [Act.put, List.setIfInBounds_toArray, List.set_cons_zero, List.set_cons_succ, i64_w, i32_w]
      rfl
    refine pure_ (i := 2) (N := some 29) (v := ?_) (a' := ?_) #[true, false, true, false, false, false, false, false, false] rfl rfl (by kernel_rfl) (fun _ _ _ h => h) (Or.inl ⟨by rfl, ?_⟩) ?_ ?_
    rotate_left
    · intro w'
      go_simp
      with_reducible rfl
    rotate_left
    · simp only [Act.put, List.setIfInBounds_toArray, List.set_cons_zero, List.set_cons_succ, i64_w, i32_w]
      rfl
    refine pure_ (i := 4) (N := some 31) (v := ?_) (a' := ?_) #[true, false, true, false, true, false, false, false, false] rfl rfl (by kernel_rfl) (fun _ _ _ h => h) (Or.inl ⟨by rfl, ?_⟩) ?_ ?_
    rotate_left
    · intro w'
      go_simp
      with_reducible rfl
    rotate_left
    · simp only [Act.put, List.setIfInBounds_toArray, List.set_cons_zero, List.set_cons_succ, i64_w, i32_w]
      rfl
    refine take_ (i := 1) (N := some 28) (v := ?_) (a' := ?_) #[true, true, true, false, true, false, false, false, false] rfl rfl (by kernel_rfl) (fun _ _ _ h => h) (Or.inl ⟨by rfl, ?_⟩) hHeld ?_ ?_
    rotate_left
    · rintro w' ⟨s0, s1, s2⟩
      go_simp
      with_reducible rfl
    rotate_left
    · simp only [Act.put, List.setIfInBounds_toArray, List.set_cons_zero, List.set_cons_succ, i64_w, i32_w]
      rfl
    refine pure_ (i := 6) (N := some 7) (v := ?_) (a' := ?_) #[true, true, true, false, true, false, true, false, false] rfl rfl (by kernel_rfl) (fun _ _ _ h => h) (Or.inl ⟨by rfl, ?_⟩) ?_ ?_
    rotate_left
    · intro w'
      go_simp
      with_reducible rfl
    rotate_left
    · simp only [Act.put, List.setIfInBounds_toArray, List.set_cons_zero, List.set_cons_succ, i64_w, i32_w]
      rfl
    refine take_ (i := 3) (N := some 30) (v := ?_) (a' := ?_) #[true, true, true, true, true, false, true, false, false] rfl rfl (by kernel_rfl) (fun _ _ _ h => h) (Or.inl ⟨by rfl, ?_⟩) hHeld ?_ ?_
    rotate_left
    · rintro w' ⟨s0, s1, s2⟩
      go_simp
      with_reducible rfl
    rotate_left
    · simp only [Act.put, List.setIfInBounds_toArray, List.set_cons_zero, List.set_cons_succ, i64_w, i32_w]
      rfl
    refine pure_ (i := 7) (N := some 8) (v := ?_) (a' := ?_) #[true, true, true, true, true, false, true, true, false] rfl rfl (by kernel_rfl) (fun _ _ _ h => h) (Or.inl ⟨by rfl, ?_⟩) ?_ ?_
    rotate_left
    · intro w'
      go_simp
      with_reducible rfl
    rotate_left
    · simp only [Act.put, List.setIfInBounds_toArray, List.set_cons_zero, List.set_cons_succ, i64_w, i32_w]
      rfl
    refine take_ (i := 5) (N := some 32) (v := ?_) (a' := ?_) #[true, true, true, true, true, true, true, true, false] rfl rfl (by kernel_rfl) (fun _ _ _ h => h) (Or.inl ⟨by rfl, ?_⟩) hHeld ?_ ?_
    rotate_left
    · rintro w' ⟨s0, s1, s2⟩
      go_simp
      with_reducible rfl
    rotate_left
    · simp only [Act.put, List.setIfInBounds_toArray, List.set_cons_zero, List.set_cons_succ, i64_w, i32_w]
      rfl
    refine pure_ (i := 8) (N := some 9) (v := ?_) (a' := ?_) #[true, true, true, true, true, true, true, true, true] rfl rfl (by kernel_rfl) (fun _ _ _ h => h) (Or.inl ⟨by rfl, ?_⟩) ?_ ?_
    rotate_left
    · intro w'
      go_simp
      with_reducible rfl
    rotate_left
    · simp only [Act.put, List.setIfInBounds_toArray, List.set_cons_zero, List.set_cons_succ, i64_w, i32_w]
      rfl
    refine done_ (by kernel_rfl) ?_
    
    have B2 : Aside0 (Below w.heap.size w w1.drew) := ⟨B1.out.drew⟩
    generalize w1.drew = w2 at B2 ⊢
    clear X1 B1
    go_wp2_with fail
    refine (same_calls A0 c0 l x y w2 (HL.out.below B2.out) (tab_mono (HTAB.out.on B2.out) B2.out.size) false 50 h1.out).mono ?_
    rintro e w3 ⟨rfl, hb3⟩
    have B3 := Aside0.mk (B2.out.trans (hb3.mono B2.out.size))
    clear hb3
    go_wp2_with fail
    refine (same_calls A0 c0 l y x w3 (HL.out.below B3.out) (tab_mono (HTAB.out.on B3.out) B3.out.size) b2 k2 h2.out).mono ?_
    rintro e w4 ⟨rfl, hb4⟩
    have B4 := Aside0.mk (B3.out.trans (hb4.mono B3.out.size))
    clear hb4
    go_wp2_with fail
    refine (same_calls A0 c0 l y z w4 (HL.out.below B4.out) (tab_mono (HTAB.out.on B4.out) B4.out.size) b3 k3 h3.out).mono ?_
    rintro e w5 ⟨rfl, hb5⟩
    have B5 := Aside0.mk (B4.out.trans (hb5.mono B4.out.size))
    clear hb5
    go_wp2_with fail
    refine (same_calls A0 c0 l x z w5 (HL.out.below B5.out) (tab_mono (HTAB.out.on B5.out) B5.out.size) b4 k4 h4.out).mono ?_
    rintro e w6 ⟨rfl, hb6⟩
    have B6 := Aside0.mk (B5.out.trans (hb6.mono B5.out.size))
    clear hb6
    go_wp2_with fail
    go_ret
    exact ⟨rfl, B6.out⟩
set_option maxRecDepth 100000 in
set_option maxHeartbeats 8000000 in
theorem turns_no2 (A0 : Option Addr) (c0 : Nat) (l : List S62) (A1 : Option Addr) (c1 : Nat) (more : List S62) (x y z : Int) (w : World) (hl : LA w A0 c0 l) (hm : LA w A1 c1 more) (htab : Lib.TabBelow Tryd.prog w.heap.size w "internal/strconv.uint64pow10" .u64 Lib.pow10Tab) (b1 b2 b4 : Bool) (k2 k3 k4 : Int) (h1 : Aside0 (oneM l l x y = (b1, 0))) (h2 : Aside0 (oneM l l y x = (b2, k2))) (h3 : Aside0 (oneM l l y z = (false, k3))) (hk3 : k3 = 1 ∨ k3 = 50) (h4 : Aside0 (oneM l l x z = (b4, k4))) :
    Calls Tryd.prog 4 #[.slice A0 l.length c0, .slice A1 more.length c1, .agg #[.int .i64 x, .int .i64 y, .int .i64 z]] w fun e w' => e = .returned (.bool true) ∧ Below w.heap.size w w' := by
  rcases hk3 with rfl | rfl
  · have HL := Aside0.mk hl
    have HM := Aside0.mk hm
    have HTAB := Aside0.mk htab
    clear hl hm htab
    go_enter Tryd.func4, Tryd.ntmps4
    go_wp2_with fail
    have ba : Below w.heap.size w (w.alloc (.cells #[.int .i64 x, .int .i64 y, .int .i64 z] 33)) := (Below.refl _ _).alloc (Nat.le_refl _) _
    refine (alive_calls _ (tab_mono (HTAB.out.on ba) ba.size)).mono ?_
    rintro e w1 ⟨rfl, hb1⟩
    have X1 := Aside0.mk (blk_below (blk_new w (.cells #[.int .i64 x, .int .i64 y, .int .i64 z] 33)) hb1)
    have B1 : Aside0 (Below w.heap.size w w1) := ⟨ba.trans (hb1.mono ba.size)⟩
    clear ba hb1
    go_wp2_with fail
    refine start_ (n := 9) (S := fun w' => w'.cell? ⟨w.heap.size, 0, none⟩ = some (.int .i64 x) ∧ w'.cell? ⟨w.heap.size, 1, none⟩ = some (.int .i64 y) ∧ w'.cell? ⟨w.heap.size, 2, none⟩ = some (.int .i64 z)) (ds := []) #[false, false, false, false, false, false, false, false, false] (by kernel_rfl) rfl rfl ⟨(blk_cell X1.out 0).trans rfl, (blk_cell X1.out 1).trans rfl, (blk_cell X1.out 2).trans rfl⟩ (fun hHeld => ?_)
    refine pure_ (i := 0) (N := some 27) (v := ?_) (a' := ?_) #[true, false, false, false, false, false, false, false, false] rfl rfl (by kernel_rfl) (fun _ _ _ h => h) (Or.inl ⟨by rfl, ?_⟩) ?_ ?_
    rotate_left
    · intro w'
      go_simp
      with_reducible rfl
    rotate_left
    · simp only [Act.put, List.setIfInBounds_toArray, List.set_cons_zero, List.set_cons_succ, i64_w, i32_w]
      rfl
    refine pure_ (i := 2) (N := some 29) (v := ?_) (a' := ?_) #[true, false, true, false, false, false, false, false, false] rfl rfl (by kernel_rfl) (fun _ _ _ h => h) (Or.inl ⟨by rfl, ?_⟩) ?_ ?_
    rotate_left
    · intro w'
      go_simp
      with_reducible rfl
    rotate_left
    · simp only [Act.put, List.setIfInBounds_toArray, List.set_cons_zero, List.set_cons_succ, i64_w, i32_w]
      rfl
    refine pure_ (i := 4) (N := some 31) (v := ?_) (a' := ?_) #[true, false, true, false, true, false, false, false, false] rfl rfl (by kernel_rfl) (fun _ _ _ h => h) (Or.inl ⟨by rfl, ?_⟩) ?_ ?_
    rotate_left
    · intro w'
      go_simp
      with_reducible rfl
    rotate_left
    · simp only [Act.put, List.setIfInBounds_toArray, List.set_cons_zero, List.set_cons_succ, i64_w, i32_w]
      rfl
    refine take_ (i := 1) (N := some 28) (v := ?_) (a' := ?_) #[true, true, true, false, true, false, false, false, false] rfl rfl (by kernel_rfl) (fun _ _ _ h => h) (Or.inl ⟨by rfl, ?_⟩) hHeld ?_ ?_
    rotate_left
    · rintro w' ⟨s0, s1, s2⟩
      go_simp
      with_reducible rfl
    rotate_left
    · simp only [Act.put, List.setIfInBounds_toArray, List.set_cons_zero, List.set_cons_succ, i64_w, i32_w]
      rfl
    refine pure_ (i := 6) (N := some 7) (v := ?_) (a' := ?_) #[true, true, true, false, true, false, true, false, false] rfl rfl (by kernel_rfl) (fun _ _ _ h => h) (Or.inl ⟨by rfl, ?_⟩) ?_ ?_
    rotate_left
    · intro w'
      go_simp
      with_reducible rfl
    rotate_left
    · simp only [Act.put, List.setIfInBounds_toArray, List.set_cons_zero, List.set_cons_succ, i64_w, i32_w]
      rfl
    refine take_ (i := 3) (N := some 30) (v := ?_) (a' := ?_) #[true, true, true, true, true, false, true, false, false] rfl rfl (by kernel_rfl) (fun _ _ _ h => h) (Or.inl ⟨by rfl, ?_⟩) hHeld ?_ ?_
    rotate_left
    · rintro w' ⟨s0, s1, s2⟩
      go_simp
      with_reducible rfl
    rotate_left
    · simp only [Act.put, List.setIfInBounds_toArray, List.set_cons_zero, List.set_cons_succ, i64_w, i32_w]
      rfl
    refine pure_ (i := 7) (N := some 8) (v := ?_) (a' := ?_) #[true, true, true, true, true, false, true, true, false] rfl rfl (by kernel_rfl) (fun _ _ _ h => h) (Or.inl ⟨by rfl, ?_⟩) ?_ ?_
    rotate_left
    · intro w'
      go_simp
      with_reducible rfl
    rotate_left
    · simp only [Act.put, List.setIfInBounds_toArray, List.set_cons_zero, List.set_cons_succ, i64_w, i32_w]
      rfl
    refine take_ (i := 5) (N := some 32) (v := ?_) (a' := ?_) #[true, true, true, true, true, true, true, true, false] rfl rfl (by kernel_rfl) (fun _ _ _ h => h) (Or.inl ⟨by rfl, ?_⟩) hHeld ?_ ?_
    rotate_left
    · rintro w' ⟨s0, s1, s2⟩
      go_simp
      with_reducible rfl
    rotate_left
    · simp only [Act.put, List.setIfInBounds_toArray, List.set_cons_zero, List.set_cons_succ, i64_w, i32_w]
      rfl
    refine pure_ (i := 8) (N := some 9) (v := ?_) (a' := ?_) #[true, true, true, true, true, true, true, true, true] rfl rfl (by kernel_rfl) (fun _ _ _ h => h) (Or.inl ⟨by rfl, ?_⟩) ?_ ?_
    rotate_left
    · intro w'
      go_simp
      with_reducible rfl
    rotate_left
    · simp only [Act.put, List.setIfInBounds_toArray, List.set_cons_zero, List.set_cons_succ, i64_w, i32_w]
      rfl
    refine done_ (by kernel_rfl) ?_
    
    have B2 : Aside0 (Below w.heap.size w w1.drew) := ⟨B1.out.drew⟩
    generalize w1.drew = w2 at B2 ⊢
    clear X1 B1
    go_wp2_with fail
    refine (same_calls A0 c0 l x y w2 (HL.out.below B2.out) (tab_mono (HTAB.out.on B2.out) B2.out.size) b1 0 h1.out).mono ?_
    rintro e w3 ⟨rfl, hb3⟩
    have B3 := Aside0.mk (B2.out.trans (hb3.mono B2.out.size))
    clear hb3
    go_wp2_with fail
    refine (same_calls A0 c0 l y x w3 (HL.out.below B3.out) (tab_mono (HTAB.out.on B3.out) B3.out.size) b2 k2 h2.out).mono ?_
    rintro e w4 ⟨rfl, hb4⟩
    have B4 := Aside0.mk (B3.out.trans (hb4.mono B3.out.size))
    clear hb4
    go_wp2_with fail
    refine (same_calls A0 c0 l y z w4 (HL.out.below B4.out) (tab_mono (HTAB.out.on B4.out) B4.out.size) false 1 h3.out).mono ?_
    rintro e w5 ⟨rfl, hb5⟩
    have B5 := Aside0.mk (B4.out.trans (hb5.mono B4.out.size))
    clear hb5
    go_wp2_with fail
    cases b1
    all_goals
      refine (same_calls A0 c0 l x z w5 (HL.out.below B5.out) (tab_mono (HTAB.out.on B5.out) B5.out.size) b4 k4 h4.out).mono ?_
      rintro e w6 ⟨rfl, hb6⟩
      have B6 := Aside0.mk (B5.out.trans (hb6.mono B5.out.size))
      clear hb6
      go_wp2_with fail
      go_ret
      exact ⟨rfl, B6.out⟩
  · have HL := Aside0.mk hl
    have HM := Aside0.mk hm
    have HTAB := Aside0.mk htab
    clear hl hm htab
    go_enter Tryd.func4, Tryd.ntmps4
    go_wp2_with fail
    have ba : Below w.heap.size w (w.alloc (.cells #[.int .i64 x, .int .i64 y, .int .i64 z] 33)) := (Below.refl _ _).alloc (Nat.le_refl _) _
    refine (alive_calls _ (tab_mono (HTAB.out.on ba) ba.size)).mono ?_
    rintro e w1 ⟨rfl, hb1⟩
    have X1 := Aside0.mk (blk_below (blk_new w (.cells #[.int .i64 x, .int .i64 y, .int .i64 z] 33)) hb1)
    have B1 : Aside0 (Below w.heap.size w w1) := ⟨ba.trans (hb1.mono ba.size)⟩
    clear ba hb1
    go_wp2_with fail
    refine start_ (n := 9) (S := fun w' => w'.cell? ⟨w.heap.size, 0, none⟩ = some (.int .i64 x) ∧ w'.cell? ⟨w.heap.size, 1, none⟩ = some (.int .i64 y) ∧ w'.cell? ⟨w.heap.size, 2, none⟩ = some (.int .i64 z)) (ds := []) #[false, false, false, false, false, false, false, false, false] (by kernel_rfl) rfl rfl ⟨(blk_cell X1.out 0).trans rfl, (blk_cell X1.out 1).trans rfl, (blk_cell X1.out 2).trans rfl⟩ (fun hHeld => ?_)
    refine pure_ (i := 0) (N := some 27) (v := ?_) (a' := ?_) #[true, false, false, false, false, false, false, false, false] rfl rfl (by kernel_rfl) (fun _ _ _ h => h) (Or.inl ⟨by rfl, ?_⟩) ?_ ?_
    rotate_left
    · intro w'
      go_simp
      with_reducible rfl
    rotate_left
    · simp only [Act.put, List.setIfInBounds_toArray, List.set_cons_zero, List.set_cons_succ, i64_w, i32_w]
      rfl
    refine pure_ (i := 2) (N := some 29) (v := ?_) (a' := ?_) #[true, false, true, false, false, false, false, false, false] rfl rfl (by kernel_rfl) (fun _ _ _ h => h) (Or.inl ⟨by rfl, ?_⟩) ?_ ?_
    rotate_left
    · intro w'
      go_simp
      with_reducible rfl
    rotate_left
    · simp only [Act.put, List.setIfInBounds_toArray, List.set_cons_zero, List.set_cons_succ, i64_w, i32_w]
      rfl
    refine pure_ (i := 4) (N := some 31) (v := ?_) (a' := ?_) #[true, false, true, false, true, false, false, false, false] rfl rfl (by kernel_rfl) (fun _ _ _ h => h) (Or.inl ⟨by rfl, ?_⟩) ?_ ?_
    rotate_left
    · intro w'
      go_simp
      with_reducible rfl
    rotate_left
    · simp only [Act.put, List.setIfInBounds_toArray, List.set_cons_zero, List.set_cons_succ, i64_w, i32_w]
      rfl
    refine take_ (i := 1) (N := some 28) (v := ?_) (a' := ?_) #[true, true, true, false, true, false, false, false, false] rfl rfl (by kernel_rfl) (fun _ _ _ h => h) (Or.inl ⟨by rfl, ?_⟩) hHeld ?_ ?_
    rotate_left
    · rintro w' ⟨s0, s1, s2⟩
      go_simp
      with_reducible rfl
    rotate_left
    · simp only [Act.put, List.setIfInBounds_toArray, List.set_cons_zero, List.set_cons_succ, i64_w, i32_w]
      rfl
    refine pure_ (i := 6) (N := some 7) (v := ?_) (a' := ?_) #[true, true, true, false, true, false, true, false, false] rfl rfl (by kernel_rfl) (fun _ _ _ h => h) (Or.inl ⟨by rfl, ?_⟩) ?_ ?_
    rotate_left
    · intro w'
      go_simp
      with_reducible rfl
    rotate_left
    · simp only [Act.put, List.setIfInBounds_toArray, List.set_cons_zero, List.set_cons_succ, i64_w, i32_w]
      rfl
    refine take_ (i := 3) (N := some 30) (v := ?_) (a' := ?_) #[true, true, true, true, true, false, true, false, false] rfl rfl (by kernel_rfl) (fun _ _ _ h => h) (Or.inl ⟨by rfl, ?_⟩) hHeld ?_ ?_
    rotate_left
    · rintro w' ⟨s0, s1, s2⟩
      go_simp
      with_reducible rfl
    rotate_left
    · simp only [Act.put, List.setIfInBounds_toArray, List.set_cons_zero, List.set_cons_succ, i64_w, i32_w]
      rfl
    refine pure_ (i := 7) (N := some 8) (v := ?_) (a' := ?_) #[true, true, true, true, true, false, true, true, false] rfl rfl (by kernel_rfl) (fun _ _ _ h => h) (Or.inl ⟨by rfl, ?_⟩) ?_ ?_
    rotate_left
    · intro w'
      go_simp
      with_reducible rfl
    rotate_left
    · simp only [Act.put, List.setIfInBounds_toArray, List.set_cons_zero, List.set_cons_succ, i64_w, i32_w]
      rfl
    refine take_ (i := 5) (N := some 32) (v := ?_) (a' := ?_) #[true, true, true, true, true, true, true, true, false] rfl rfl (by kernel_rfl) (fun _ _ _ h => h) (Or.inl ⟨by rfl, ?_⟩) hHeld ?_ ?_
    rotate_left
    · rintro w' ⟨s0, s1, s2⟩
      go_simp
      with_reducible rfl
    rotate_left
    · simp only [Act.put, List.setIfInBounds_toArray, List.set_cons_zero, List.set_cons_succ, i64_w, i32_w]
      rfl
    refine pure_ (i := 8) (N := some 9) (v := ?_) (a' := ?_) #[true, true, true, true, true, true, true, true, true] rfl rfl (by kernel_rfl) (fun _ _ _ h => h) (Or.inl ⟨by rfl, ?_⟩) ?_ ?_
    rotate_left
    · intro w'
      go_simp
      with_reducible rfl
    rotate_left
    · simp only [Act.put, List.setIfInBounds_toArray, List.set_cons_zero, List.set_cons_succ, i64_w, i32_w]
      rfl
    refine done_ (by kernel_rfl) ?_
    
    have B2 : Aside0 (Below w.heap.size w w1.drew) := ⟨B1.out.drew⟩
    generalize w1.drew = w2 at B2 ⊢
    clear X1 B1
    go_wp2_with fail
    refine (same_calls A0 c0 l x y w2 (HL.out.below B2.out) (tab_mono (HTAB.out.on B2.out) B2.out.size) b1 0 h1.out).mono ?_
    rintro e w3 ⟨rfl, hb3⟩
    have B3 := Aside0.mk (B2.out.trans (hb3.mono B2.out.size))
    clear hb3
    go_wp2_with fail
    refine (same_calls A0 c0 l y x w3 (HL.out.below B3.out) (tab_mono (HTAB.out.on B3.out) B3.out.size) b2 k2 h2.out).mono ?_
    rintro e w4 ⟨rfl, hb4⟩
    have B4 := Aside0.mk (B3.out.trans (hb4.mono B3.out.size))
    clear hb4
    go_wp2_with fail
    refine (same_calls A0 c0 l y z w4 (HL.out.below B4.out) (tab_mono (HTAB.out.on B4.out) B4.out.size) false 50 h3.out).mono ?_
    rintro e w5 ⟨rfl, hb5⟩
    have B5 := Aside0.mk (B4.out.trans (hb5.mono B4.out.size))
    clear hb5
    go_wp2_with fail
    cases b1
    all_goals
      refine (same_calls A0 c0 l x z w5 (HL.out.below B5.out) (tab_mono (HTAB.out.on B5.out) B5.out.size) b4 k4 h4.out).mono ?_
      rintro e w6 ⟨rfl, hb6⟩
      have B6 := Aside0.mk (B5.out.trans (hb6.mono B5.out.size))
      clear hb6
      go_wp2_with fail
      go_ret
      exact ⟨rfl, B6.out⟩
set_option maxRecDepth 100000 in
set_option maxHeartbeats 16000000 in
theorem turns_yes (A0 : Option Addr) (c0 : Nat) (l : List S62) (A1 : Option Addr) (c1 : Nat) (more : List S62) (x y z : Int) (w : World) (hl : LA w A0 c0 l) (hm : LA w A1 c1 more) (htab : Lib.TabBelow Tryd.prog w.heap.size w "internal/strconv.uint64pow10" .u64 Lib.pow10Tab) (hc : Clo l) (hx : 0 ≤ x ∧ x < (tcount l : Nat)) (hy : 0 ≤ y ∧ y < (tcount l : Nat)) (b1 b3 b4 : Bool) (h1 : Aside0 (oneM l l x y = (b1, 0))) (h2 : Aside0 (oneM l l y x = (b1, 0))) (h3 : Aside0 (oneM l l y z = (b3, 0))) (h4 : Aside0 (oneM l l x z = (b4, 0))) (h5 : Aside0 (oneM l l x x = (true, 0)))
    (hb : b1 = false ∨ (b1 = true ∧ b3 = false) ∨ (b1 = true ∧ b3 = true ∧ b4 = true)) :
    Calls Tryd.prog 4 #[.slice A0 l.length c0, .slice A1 more.length c1, .agg #[.int .i64 x, .int .i64 y, .int .i64 z]] w fun e w' => e = .returned (.bool true) ∧ Below w.heap.size w w' := by
  have HCL := Aside0.mk hc
  have HXX := Aside0.mk hx
  have HYY := Aside0.mk hy
  have HBB := Aside0.mk hb
  clear hc hx hy hb
  have HL := Aside0.mk hl
  have HM := Aside0.mk hm
  have HTAB := Aside0.mk htab
  clear hl hm htab
  go_enter Tryd.func4, Tryd.ntmps4
  go_wp2_with fail
  have ba : Below w.heap.size w (w.alloc (.cells #[.int .i64 x, .int .i64 y, .int .i64 z] 33)) := (Below.refl _ _).alloc (Nat.le_refl _) _
  refine (alive_calls _ (tab_mono (HTAB.out.on ba) ba.size)).mono ?_
  rintro e w1 ⟨rfl, hb1⟩
  have X1 := Aside0.mk (blk_below (blk_new w (.cells #[.int .i64 x, .int .i64 y, .int .i64 z] 33)) hb1)
  have B1 : Aside0 (Below w.heap.size w w1) := ⟨ba.trans (hb1.mono ba.size)⟩
  clear ba hb1
  go_wp2_with fail
  refine start_ (n := 9) (S := fun w' => w'.cell? ⟨w.heap.size, 0, none⟩ = some (.int .i64 x) ∧ w'.cell? ⟨w.heap.size, 1, none⟩ = some (.int .i64 y) ∧ w'.cell? ⟨w.heap.size, 2, none⟩ = some (.int .i64 z)) (ds := []) #[false, false, false, false, false, false, false, false, false] (by kernel_rfl) rfl rfl ⟨(blk_cell X1.out 0).trans rfl, (blk_cell X1.out 1).trans rfl, (blk_cell X1.out 2).trans rfl⟩ (fun hHeld => ?_)
  refine pure_ (i := 0) (N := some 27) (v := ?_) (a' := ?_) #[true, false, false, false, false, false, false, false, false] rfl rfl (by kernel_rfl) (fun _ _ _ h => h) (Or.inl ⟨by rfl, ?_⟩) ?_ ?_
  rotate_left
  · intro w'
    go_simp
    with_reducible rfl
  rotate_left
  · simp only [Act.put, List.setIfInBounds_toArray, List.set_cons_zero, List.set_cons_succ, i64_w, i32_w]
    rfl
  refine pure_ (i := 2) (N := some 29) (v := ?_) (a' := ?_) #[true, false, true, false, false, false, false, false, false] rfl rfl (by kernel_rfl) (fun _ _ _ h => h) (Or.inl ⟨by rfl, ?_⟩) ?_ ?_
  rotate_left
  · intro w'
    go_simp
    with_reducible rfl
  rotate_left
  · simp only [Act.put, List.setIfInBounds_toArray, List.set_cons_zero, List.set_cons_succ, i64_w, i32_w]
    rfl
  refine pure_ (i := 4) (N := some 31) (v := ?_) (a' := ?_) #[true, false, true, false, true, false, false, false, false] rfl rfl (by kernel_rfl) (fun _ _ _ h => h) (Or.inl ⟨by rfl, ?_⟩) ?_ ?_
  rotate_left
  · intro w'
    go_simp
    with_reducible rfl
  rotate_left
  · simp only [Act.put, List.setIfInBounds_toArray, List.set_cons_zero, List.set_cons_succ, i64_w, i32_w]
    rfl
  refine take_ (i := 1) (N := some 28) (v := ?_) (a' := ?_) #[true, true, true, false, true, false, false, false, false] rfl rfl (by kernel_rfl) (fun _ _ _ h => h) (Or.inl ⟨by rfl, ?_⟩) hHeld ?_ ?_
  rotate_left
  · rintro w' ⟨s0, s1, s2⟩
    go_simp
    with_reducible rfl
  rotate_left
  · simp only [Act.put, List.setIfInBounds_toArray, List.set_cons_zero, List.set_cons_succ, i64_w, i32_w]
    rfl
  refine pure_ (i := 6) (N := some 7) (v := ?_) (a' := ?_) #[true, true, true, false, true, false, true, false, false] rfl rfl (by kernel_rfl) (fun _ _ _ h => h) (Or.inl ⟨by rfl, ?_⟩) ?_ ?_
  rotate_left
  · intro w'
    go_simp
    with_reducible rfl
  rotate_left
  · simp only [Act.put, List.setIfInBounds_toArray, List.set_cons_zero, List.set_cons_succ, i64_w, i32_w]
    rfl
  refine take_ (i := 3) (N := some 30) (v := ?_) (a' := ?_) #[true, true, true, true, true, false, true, false, false] rfl rfl (by kernel_rfl) (fun _ _ _ h => h) (Or.inl ⟨by rfl, ?_⟩) hHeld ?_ ?_
  rotate_left
  · rintro w' ⟨s0, s1, s2⟩
    go_simp
    with_reducible rfl
  rotate_left
  · simp only [Act.put, List.setIfInBounds_toArray, List.set_cons_zero, List.set_cons_succ, i64_w, i32_w]
    rfl
  refine pure_ (i := 7) (N := some 8) (v := ?_) (a' := ?_) #[true, true, true, true, true, false, true, true, false] rfl rfl (by kernel_rfl) (fun _ _ _ h => h) (Or.inl ⟨by rfl, ?_⟩) ?_ ?_
  rotate_left
  · intro w'
    go_simp
    with_reducible rfl
  rotate_left
  · simp only [Act.put, List.setIfInBounds_toArray, List.set_cons_zero, List.set_cons_succ, i64_w, i32_w]
    rfl
  refine take_ (i := 5) (N := some 32) (v := ?_) (a' := ?_) #[true, true, true, true, true, true, true, true, false] rfl rfl (by kernel_rfl) (fun _ _ _ h => h) (Or.inl ⟨by rfl, ?_⟩) hHeld ?_ ?_
  rotate_left
  · rintro w' ⟨s0, s1, s2⟩
    go_simp
    with_reducible rfl
  rotate_left
  · simp only [Act.put, List.setIfInBounds_toArray, List.set_cons_zero, List.set_cons_succ, i64_w, i32_w]
    rfl
  refine pure_ (i := 8) (N := some 9) (v := ?_) (a' := ?_) #[true, true, true, true, true, true, true, true, true] rfl rfl (by kernel_rfl) (fun _ _ _ h => h) (Or.inl ⟨by rfl, ?_⟩) ?_ ?_
  rotate_left
  · intro w'
    go_simp
    with_reducible rfl
  rotate_left
  · simp only [Act.put, List.setIfInBounds_toArray, List.set_cons_zero, List.set_cons_succ, i64_w, i32_w]
    rfl
  refine done_ (by kernel_rfl) ?_
  
  have B2 : Aside0 (Below w.heap.size w w1.drew) := ⟨B1.out.drew⟩
  generalize w1.drew = w2 at B2 ⊢
  clear X1 B1
  go_wp2_with fail
  refine (same_calls A0 c0 l x y w2 (HL.out.below B2.out) (tab_mono (HTAB.out.on B2.out) B2.out.size) b1 0 h1.out).mono ?_
  rintro e w3 ⟨rfl, hb3⟩
  have B3 := Aside0.mk (B2.out.trans (hb3.mono B2.out.size))
  clear hb3
  go_wp2_with fail
  refine (same_calls A0 c0 l y x w3 (HL.out.below B3.out) (tab_mono (HTAB.out.on B3.out) B3.out.size) b1 0 h2.out).mono ?_
  rintro e w4 ⟨rfl, hb4⟩
  have B4 := Aside0.mk (B3.out.trans (hb4.mono B3.out.size))
  clear hb4
  go_wp2_with fail
  refine (same_calls A0 c0 l y z w4 (HL.out.below B4.out) (tab_mono (HTAB.out.on B4.out) B4.out.size) b3 0 h3.out).mono ?_
  rintro e w5 ⟨rfl, hb5⟩
  have B5 := Aside0.mk (B4.out.trans (hb5.mono B4.out.size))
  clear hb5
  go_wp2_with fail
  refine (same_calls A0 c0 l x z w5 (HL.out.below B5.out) (tab_mono (HTAB.out.on B5.out) B5.out.size) b4 0 h4.out).mono ?_
  rintro e w6 ⟨rfl, hb6⟩
  have B6 := Aside0.mk (B5.out.trans (hb6.mono B5.out.size))
  clear hb6
  go_wp2_with fail
  refine (same_calls A0 c0 l x x w6 (HL.out.below B6.out) (tab_mono (HTAB.out.on B6.out) B6.out.size) true 0 h5.out).mono ?_
  rintro e w7 ⟨rfl, hb7⟩
  have B7 := Aside0.mk (B6.out.trans (hb7.mono B6.out.size))
  clear hb7
  have HONE := Aside0.mk h1.out
  clear h1 h2 h3 h4 h5
  rcases HBB.out with rfl | ⟨rfl, rfl⟩ | ⟨rfl, rfl, rfl⟩
  · clear HBB
    go_wp2_with fail
    refine (new_calls w7 (tab_mono (HTAB.out.on B7.out) B7.out.size)).mono ?_
    rintro e w8 ⟨rfl, ht8, hb8⟩
    have B8 := Aside0.mk (B7.out.trans (hb8.mono B7.out.size))
    obtain ⟨B, hB⟩ : ∃ B, B = w7.heap.size := ⟨_, rfl⟩
    have hwB : w.heap.size ≤ B := by rw [hB]; exact B7.out.size
    have hz8 : B ≤ w8.heap.size := by rw [hB]; exact hb8.size
    rw [← hB] at ht8 ⊢
    have T8 := Aside0.mk ht8
    have HWB := Aside0.mk hwB
    have HZ8 := Aside0.mk hz8
    clear ht8 hb8 hB hwB hz8
    go_wp2_with fail
    refine (tadd_first B (B + 1) B (.map []) A1 c1 more w8 T8.out HZ8.out (HM.out.below B8.out) (fun g' b' w' h1 h2 h3 => LR.of_C HM.out.C (fun W hW => (B8.out.trans (h1.mono B8.out.size)).trans (hW.bel.mono HWB.out)))).mono ?_
    rintro e w9 ⟨x0, x1, x2, gs, v, bm, D, rfl, ht9, hb9, hm9, hg9⟩
    have T9 := Aside0.mk ht9
    have B9 : Aside0 (Below w.heap.size w w9) := ⟨B8.out.trans (hb9.mono HWB.out)⟩
    have HZ9 : Aside0 (B ≤ w9.heap.size) := ⟨Nat.le_trans HZ8.out hb9.size⟩
    have HM9 := Aside0.mk (And.intro hm9 hg9)
    clear ht9 hb9 hm9 hg9
    go_wp2_with fail
    have hwl := HL.out.w
    have htc := tcount_le_wL l
    refine (tadd_calls B (B + 1) bm gs v D A0 c0 l w9 T9.out HZ9.out (HL.out.below B9.out).C HL.out.cap (fun g' b' w' h1 h2 h3 => LR.of_C HL.out.C (fun W hW => (B9.out.trans (h1.mono B9.out.size)).trans (hW.bel.mono HWB.out))) (sok_all (by omega)) (rin_all (by omega) HL.out.inn) (by omega) (by omega) (by have := HM9.out.1; omega) (by have := HM9.out.2; omega)).mono ?_
    intro e w10 hout
    unfold TAddOut at hout
    rcases hout with ⟨hn, _⟩ | ⟨_, hout⟩
    · exact absurd HCL.out hn
    obtain ⟨st, hst⟩ : ∃ st, st = addTo 10000 (gs, []) l := ⟨_, rfl⟩
    rw [← hst] at hout
    have HST := Aside0.mk hst
    clear hst hwl htc
    rcases st with _ | ⟨gs1, ids⟩
    · obtain ⟨⟨n, rfl⟩, hf⟩ := hout
      have F10 := Aside0.mk hf
      clear hf
      go_wp2_with fail
      go_ret
      exact ⟨rfl, B9.out.trans (F10.out.bel.mono HWB.out)⟩
    obtain ⟨vi, v1, bm1, D1, rfl, ht10, hi10, hf10⟩ := hout
    have T10 := Aside0.mk (ht10.weak (ok' := fun _ => True) (fun _ _ => trivial))
    have HI10 := Aside0.mk hi10
    have B10 : Aside0 (Below w.heap.size w w10) := ⟨B9.out.trans (hf10.bel.mono HWB.out)⟩
    have HZ10 : Aside0 (B ≤ w10.heap.size) := ⟨Nat.le_trans HZ9.out hf10.bel.size⟩
    obtain ⟨Ai, ci, hvi⟩ := Kd.R_slice hi10
    subst hvi
    have HLE := Aside0.mk (addTo_le 10000 l gs gs1 [] ids HST.out.symm)
    have HAG := Aside0.mk (addTo_again 10000 10000 l gs gs1 ids HST.out.symm (Dist.of_PM T9.out.pm))
    clear ht10 hi10 hf10
    go_wp2_with fail
    have hwl := HL.out.w
    have htc := tcount_le_wL l
    refine (tadd_calls B (B + 1) bm1 gs1 v1 D1 A0 c0 l w10 T10.out HZ10.out (HL.out.below B10.out).C HL.out.cap (fun g' b' w' h1 h2 h3 => LR.of_C HL.out.C (fun W hW => (B10.out.trans (h1.mono B10.out.size)).trans (hW.bel.mono HWB.out))) (sok_all (by omega)) (rin_all (by omega) HL.out.inn) (by omega) (by omega) (by have := HM9.out.1; have := HLE.out.1; omega) (by have := HM9.out.2; have := HLE.out.2.1; omega)).mono ?_
    intro e w11 hout
    unfold TAddOut at hout
    rcases hout with ⟨hn, _⟩ | ⟨_, hout⟩
    · exact absurd HCL.out hn
    rw [HAG.out] at hout
    obtain ⟨vj, v2, bm2, D2, rfl, ht11, hi11, hf11⟩ := hout
    have B11 : Aside0 (Below w.heap.size w w11) := ⟨B10.out.trans (hf11.bel.mono HWB.out)⟩
    obtain ⟨Aj, cj, hvj⟩ := Kd.R_slice hi11
    subst hvj
    have hri : Kd.R (Kd.int .i64) 3 w11 w9.heap.size (fun _ => True) (.slice Ai ids.length ci) ids := fr_row hf11 HI10.out ⟨_, _, T10.out.box, by show (47 : Nat) ≠ 3; decide⟩ (fun cs t h => by obtain ⟨es, clock, hb, _⟩ := T10.out.map; rw [hb] at h; cases h)
    obtain ⟨_, _, e1, hci, hCi⟩ := Kd.R_reads hri
    injection e1 with e1 e2 e3
    subst e1 e3
    obtain ⟨_, _, e4, hcj, hCj⟩ := Kd.R_reads hi11
    injection e4 with e4 e5 e6
    subst e4 e6
    have e0 : ([] : List Int).length = 0 := rfl
    have hli : (x : Int) < ids.length := by have h1_ := HLE.out.2.2; rw [e0] at h1_; have := HXX.out.2; omega
    have hlj : (y : Int) < ids.length := by have h1_ := HLE.out.2.2; rw [e0] at h1_; have := HYY.out.2; omega
    have hx0 : 0 ≤ x := HXX.out.1
    have hy0 : 0 ≤ y := HYY.out.1
    obtain ⟨ai, ei, hxi⟩ := Kd.at_int hCi x hx0 hli
    obtain ⟨aj, ej, hyj⟩ := Kd.at_int hCi y hy0 hlj
    subst ei
    injection ej with ej
    subst ej
    have HEQ : Aside0 ((rd ids x == rd ids y) = false) := ⟨by
      obtain ⟨g1, i1, h1_, h2_⟩ := oneIds_self (l := l) (by have := tcount_le_wL l; have := HL.out.w; omega)
      have h3_ := oneM_ok HCL.out HCL.out ⟨HXX.out.1, HXX.out.2, HYY.out.1, HYY.out.2⟩
      rw [HONE.out, h2_] at h3_
      have h4_ : false = (rd i1 x == rd i1 y) := congrArg Prod.fst h3_
      rw [h4_, Bool.eq_iff_iff, beq_iff_eq, beq_iff_eq]
      exact ids_alike HCL.out HST.out.symm h1_ (Dist.of_PM T9.out.pm) Dist.nil x y HXX.out HYY.out⟩
    have HIL : Aside0 (ids.length ≤ 1099511627776) := ⟨by have h1_ := HLE.out.2.2; rw [e0] at h1_; have := tcount_le_wL l; have := HL.out.w; omega⟩
    have HX := Aside0.mk (And.intro hxi hyj)
    have HCI := Aside0.mk hCi
    have HCJ := Aside0.mk hCj
    have HCP := Aside0.mk (And.intro hci hcj)
    clear ht11 hi11 hf11 hri hCi hCj hxi hyj e2 e5 e0 hwl htc hci hcj
    obtain ⟨p1, hp1⟩ : ∃ p, p = rd ids x := ⟨_, rfl⟩
    obtain ⟨p2, hp2⟩ : ∃ p, p = rd ids y := ⟨_, rfl⟩
    rw [← hp1, ← hp2] at HEQ HX
    clear hp1 hp2
    go_wp2_with fail
    refine start_ (n := 33) (S := fun w' => Kd.C (Kd.int .i64) w' (some ai) ids.length ids ∧ Kd.C (Kd.int .i64) w' Aj ids.length ids ∧ w'.cell? (ai.add x.toNat) = some (.int .i64 p1) ∧ w'.cell? (ai.add y.toNat) = some (.int .i64 p2)) (ds := []) #[false, false, false, false, false, false, false, false, false, false, false, false, false, false, false, false, false, false, false, false, false, false, false, false, false, false, false, false, false, false, false, false, false] (by kernel_rfl) rfl rfl ⟨Kd.C_below HCI.out ((Below.refl _ _).drew), Kd.C_below HCJ.out ((Below.refl _ _).drew), HX.out.1, HX.out.2⟩ (fun hHeld => ?_)
    refine pure_ (i := 0) (N := some 137) (v := ?_) (a' := ?_) #[true, false, false, false, false, false, false, false, false, false, false, false, false, false, false, false, false, false, false, false, false, false, false, false, false, false, false, false, false, false, false, false, false] rfl rfl (by kernel_rfl) (fun _ _ _ h => h) (Or.inl ⟨by rfl, ?_⟩) ?_ ?_
    rotate_left
    · intro w'
      go_simp
      with_reducible rfl
    rotate_left
    · simp only [Act.put, List.setIfInBounds_toArray, List.set_cons_zero, List.set_cons_succ, i64_w, i32_w]
      rfl
    refine pure_ (i := 1) (N := some 138) (v := ?_) (a' := ?_) #[true, true, false, false, false, false, false, false, false, false, false, false, false, false, false, false, false, false, false, false, false, false, false, false, false, false, false, false, false, false, false, false, false] rfl rfl (by kernel_rfl) (fun _ _ _ h => h) (Or.inl ⟨by rfl, ?_⟩) ?_ ?_
    rotate_left
    · intro w'
      go_simp
      with_reducible rfl
    rotate_left
    · simp only [Act.put, List.setIfInBounds_toArray, List.set_cons_zero, List.set_cons_succ, i64_w, i32_w]
      rfl
    refine pure_ (i := 2) (N := some 139) (v := ?_) (a' := ?_) #[true, true, true, false, false, false, false, false, false, false, false, false, false, false, false, false, false, false, false, false, false, false, false, false, false, false, false, false, false, false, false, false, false] rfl rfl (by kernel_rfl) (fun _ _ _ h => h) (Or.inl ⟨by rfl, ?_⟩) ?_ ?_
    rotate_left
    · intro w'
      go_simp
      with_reducible rfl
    rotate_left
    · simp only [Act.put, List.setIfInBounds_toArray, List.set_cons_zero, List.set_cons_succ, i64_w, i32_w]
      rfl
    refine pure_ (i := 3) (N := some 140) (v := ?_) (a' := ?_) #[true, true, true, true, false, false, false, false, false, false, false, false, false, false, false, false, false, false, false, false, false, false, false, false, false, false, false, false, false, false, false, false, false] rfl rfl (by kernel_rfl) (fun _ _ _ h => h) (Or.inl ⟨by rfl, ?_⟩) ?_ ?_
    rotate_left
    · intro w'
      go_simp
      with_reducible rfl
    rotate_left
    · simp only [Act.put, List.setIfInBounds_toArray, List.set_cons_zero, List.set_cons_succ, i64_w, i32_w]
      rfl
    refine pure_ (i := 4) (N := some 141) (v := ?_) (a' := ?_) #[true, true, true, true, true, false, false, false, false, false, false, false, false, false, false, false, false, false, false, false, false, false, false, false, false, false, false, false, false, false, false, false, false] rfl rfl (by kernel_rfl) (fun _ _ _ h => h) (Or.inl ⟨by rfl, ?_⟩) ?_ ?_
    rotate_left
    · intro w'
      go_simp
      with_reducible rfl
    rotate_left
    · simp only [Act.put, List.setIfInBounds_toArray, List.set_cons_zero, List.set_cons_succ, i64_w, i32_w]
      rfl
    refine one_ (i := 5) (N := some 142) #[true, true, true, true, true, true, false, false, false, false, false, false, false, false, false, false, false, false, false, false, false, false, false, false, false, false, false, false, false, false, false, false, false] rfl rfl (by kernel_rfl) (by decide) (fun K hK => ?_)
    refine goes_ Tryd.func20 (by kernel_rfl) rfl #[.slice (some ai) ids.length ci, .slice Aj ids.length cj] (by rfl) rfl rfl (by simp only [List.map_toArray, List.map_cons, List.map_nil]; rfl) ?_
    with_reducible refine (ratchetlaw06_ints.calls (ids.length + 1) (some ai) ci ids Aj cj ids true _ hHeld.1 HCP.out.1 hHeld.2.1 HCP.out.2 (ints_refl ids HIL.out)).mono ?_
    rintro e w3 ⟨rfl, hd3⟩
    refine ⟨_, rfl, ?_⟩
    have bd3 := hd3.below
    refine hK.out _ _ ⟨Kd.C_below hHeld.1 bd3, Kd.C_below hHeld.2.1 bd3, (bd3.cell (World.block_lt_of_cell? _ _ hHeld.2.2.1)).trans hHeld.2.2.1, (bd3.cell (World.block_lt_of_cell? _ _ hHeld.2.2.2)).trans hHeld.2.2.2⟩ (fun hHeld => ?_)
    clear hK K
    refine norm_ (a' := ?_) ?_ ?_
    rotate_left
    · show Act.put _ (some 142) _ = _
      simp only [Act.put, List.setIfInBounds_toArray, List.set_cons_zero, List.set_cons_succ, i64_w, i32_w]
      rfl
    refine pure_ (i := 6) (N := some 143) (v := ?_) (a' := ?_) #[true, true, true, true, true, true, true, false, false, false, false, false, false, false, false, false, false, false, false, false, false, false, false, false, false, false, false, false, false, false, false, false, false] rfl rfl (by kernel_rfl) (fun _ _ _ h => h) (Or.inl ⟨by rfl, ?_⟩) ?_ ?_
    rotate_left
    · intro w'
      go_simp
      with_reducible rfl
    rotate_left
    · simp only [Act.put, List.setIfInBounds_toArray, List.set_cons_zero, List.set_cons_succ, i64_w, i32_w]
      rfl
    refine pure_ (i := 7) (N := some 144) (v := ?_) (a' := ?_) #[true, true, true, true, true, true, true, true, false, false, false, false, false, false, false, false, false, false, false, false, false, false, false, false, false, false, false, false, false, false, false, false, false] rfl rfl (by kernel_rfl) (fun _ _ _ h => h) (Or.inl ⟨by rfl, ?_⟩) ?_ ?_
    rotate_left
    · intro w'
      go_simp
      with_reducible rfl
    rotate_left
    · simp only [Act.put, List.setIfInBounds_toArray, List.set_cons_zero, List.set_cons_succ, i64_w, i32_w]
      rfl
    refine pure_ (i := 8) (N := some 145) (v := ?_) (a' := ?_) #[true, true, true, true, true, true, true, true, true, false, false, false, false, false, false, false, false, false, false, false, false, false, false, false, false, false, false, false, false, false, false, false, false] rfl rfl (by kernel_rfl) (fun _ _ _ h => h) (Or.inl ⟨by rfl, ?_⟩) ?_ ?_
    rotate_left
    · intro w'
      go_simp
      with_reducible rfl
    rotate_left
    · simp only [Act.put, List.setIfInBounds_toArray, List.set_cons_zero, List.set_cons_succ, i64_w, i32_w]
      rfl
    refine pure_ (i := 9) (N := some 146) (v := ?_) (a' := ?_) #[true, true, true, true, true, true, true, true, true, true, false, false, false, false, false, false, false, false, false, false, false, false, false, false, false, false, false, false, false, false, false, false, false] rfl rfl (by kernel_rfl) (fun _ _ _ h => h) (Or.inl ⟨by rfl, ?_⟩) ?_ ?_
    rotate_left
    · intro w'
      go_simp
      with_reducible rfl
    rotate_left
    · simp only [Act.put, List.setIfInBounds_toArray, List.set_cons_zero, List.set_cons_succ, i64_w, i32_w]
      rfl
    refine pure_ (i := 10) (N := some 147) (v := ?_) (a' := ?_) #[true, true, true, true, true, true, true, true, true, true, true, false, false, false, false, false, false, false, false, false, false, false, false, false, false, false, false, false, false, false, false, false, false] rfl rfl (by kernel_rfl) (fun _ _ _ h => h) (Or.inl ⟨by rfl, ?_⟩) ?_ ?_
    rotate_left
    · intro w'
      go_simp
      with_reducible rfl
    rotate_left
    · simp only [Act.put, List.setIfInBounds_toArray, List.set_cons_zero, List.set_cons_succ, i64_w, i32_w]
      rfl
    refine pure_ (i := 11) (N := some 148) (v := ?_) (a' := ?_) #[true, true, true, true, true, true, true, true, true, true, true, true, false, false, false, false, false, false, false, false, false, false, false, false, false, false, false, false, false, false, false, false, false] rfl rfl (by kernel_rfl) (fun _ _ _ h => h) (Or.inl ⟨by rfl, ?_⟩) ?_ ?_
    rotate_left
    · intro w'
      go_simp
      with_reducible rfl
    rotate_left
    · simp only [Act.put, List.setIfInBounds_toArray, List.set_cons_zero, List.set_cons_succ, i64_w, i32_w]
      rfl
    refine pure_ (i := 12) (N := some 149) (v := ?_) (a' := ?_) #[true, true, true, true, true, true, true, true, true, true, true, true, true, false, false, false, false, false, false, false, false, false, false, false, false, false, false, false, false, false, false, false, false] rfl rfl (by kernel_rfl) (fun _ _ _ h => h) (Or.inl ⟨by rfl, ?_⟩) ?_ ?_
    rotate_left
    · intro w'
      go_simp
      with_reducible rfl
    rotate_left
    · simp only [Act.put, List.setIfInBounds_toArray, List.set_cons_zero, List.set_cons_succ, i64_w, i32_w]
      rfl
    refine pure_ (i := 13) (N := some 150) (v := ?_) (a' := ?_) #[true, true, true, true, true, true, true, true, true, true, true, true, true, true, false, false, false, false, false, false, false, false, false, false, false, false, false, false, false, false, false, false, false] rfl rfl (by kernel_rfl) (fun _ _ _ h => h) (Or.inl ⟨by rfl, ?_⟩) ?_ ?_
    rotate_left
    · intro w'
      go_simp
      with_reducible rfl
    rotate_left
    · simp only [Act.put, List.setIfInBounds_toArray, List.set_cons_zero, List.set_cons_succ, i64_w, i32_w]
      rfl
    refine pure_ (i := 14) (N := some 151) (v := ?_) (a' := ?_) #[true, true, true, true, true, true, true, true, true, true, true, true, true, true, true, false, false, false, false, false, false, false, false, false, false, false, false, false, false, false, false, false, false] rfl rfl (by kernel_rfl) (fun _ _ _ h => h) (Or.inl ⟨by rfl, ?_⟩) ?_ ?_
    rotate_left
    · intro w'
      go_simp
      with_reducible rfl
    rotate_left
    · simp only [Act.put, List.setIfInBounds_toArray, List.set_cons_zero, List.set_cons_succ, i64_w, i32_w]
      rfl
    refine pure_ (i := 15) (N := some 152) (v := ?_) (a' := ?_) #[true, true, true, true, true, true, true, true, true, true, true, true, true, true, true, true, false, false, false, false, false, false, false, false, false, false, false, false, false, false, false, false, false] rfl rfl (by kernel_rfl) (fun _ _ _ h => h) (Or.inl ⟨by rfl, ?_⟩) ?_ ?_
    rotate_left
    · intro w'
      go_simp
      with_reducible rfl
    rotate_left
    · simp only [Act.put, List.setIfInBounds_toArray, List.set_cons_zero, List.set_cons_succ, i64_w, i32_w]
      rfl
    refine pure_ (i := 16) (N := some 153) (v := ?_) (a' := ?_) #[true, true, true, true, true, true, true, true, true, true, true, true, true, true, true, true, true, false, false, false, false, false, false, false, false, false, false, false, false, false, false, false, false] rfl rfl (by kernel_rfl) (fun _ _ _ h => h) (Or.inl ⟨by rfl, ?_⟩) ?_ ?_
    rotate_left
    · intro w'
      go_simp
      with_reducible rfl
    rotate_left
    · simp only [Act.put, List.setIfInBounds_toArray, List.set_cons_zero, List.set_cons_succ, i64_w, i32_w]
      rfl
    refine pure_ (i := 17) (N := some 154) (v := ?_) (a' := ?_) #[true, true, true, true, true, true, true, true, true, true, true, true, true, true, true, true, true, true, false, false, false, false, false, false, false, false, false, false, false, false, false, false, false] rfl rfl (by kernel_rfl) (fun _ _ _ h => h) (Or.inl ⟨by rfl, ?_⟩) ?_ ?_
    rotate_left
    · intro w'
      go_simp
      with_reducible rfl
    rotate_left
    · simp only [Act.put, List.setIfInBounds_toArray, List.set_cons_zero, List.set_cons_succ, i64_w, i32_w]
      rfl
    refine pure_ (i := 18) (N := some 155) (v := ?_) (a' := ?_) #[true, true, true, true, true, true, true, true, true, true, true, true, true, true, true, true, true, true, true, false, false, false, false, false, false, false, false, false, false, false, false, false, false] rfl rfl (by kernel_rfl) (fun _ _ _ h => h) (Or.inl ⟨by rfl, ?_⟩) ?_ ?_
    rotate_left
    · intro w'
      go_simp
      with_reducible rfl
    rotate_left
    · simp only [Act.put, List.setIfInBounds_toArray, List.set_cons_zero, List.set_cons_succ, i64_w, i32_w]
      rfl
    refine pure_ (i := 19) (N := some 156) (v := ?_) (a' := ?_) #[true, true, true, true, true, true, true, true, true, true, true, true, true, true, true, true, true, true, true, true, false, false, false, false, false, false, false, false, false, false, false, false, false] rfl rfl (by kernel_rfl) (fun _ _ _ h => h) (Or.inl ⟨by rfl, ?_⟩) ?_ ?_
    rotate_left
    · intro w'
      go_simp
      with_reducible rfl
    rotate_left
    · simp only [Act.put, List.setIfInBounds_toArray, List.set_cons_zero, List.set_cons_succ, i64_w, i32_w]
      rfl
    refine pure_ (i := 20) (N := some 157) (v := ?_) (a' := ?_) #[true, true, true, true, true, true, true, true, true, true, true, true, true, true, true, true, true, true, true, true, true, false, false, false, false, false, false, false, false, false, false, false, false] rfl rfl (by kernel_rfl) (fun _ _ _ h => h) (Or.inl ⟨by rfl, ?_⟩) ?_ ?_
    rotate_left
    · intro w'
      go_simp
      with_reducible rfl
    rotate_left
    · simp only [Act.put, List.setIfInBounds_toArray, List.set_cons_zero, List.set_cons_succ, i64_w, i32_w]
      rfl
    refine pure_ (i := 21) (N := some 158) (v := ?_) (a' := ?_) #[true, true, true, true, true, true, true, true, true, true, true, true, true, true, true, true, true, true, true, true, true, true, false, false, false, false, false, false, false, false, false, false, false] rfl rfl (by kernel_rfl) (fun _ _ _ h => h) (Or.inl ⟨by rfl, ?_⟩) ?_ ?_
    rotate_left
    · intro w'
      go_simp
      with_reducible rfl
    rotate_left
    · simp only [Act.put, List.setIfInBounds_toArray, List.set_cons_zero, List.set_cons_succ, i64_w, i32_w]
      rfl
    refine pure_ (i := 22) (N := some 159) (v := ?_) (a' := ?_) #[true, true, true, true, true, true, true, true, true, true, true, true, true, true, true, true, true, true, true, true, true, true, true, false, false, false, false, false, false, false, false, false, false] rfl rfl (by kernel_rfl) (fun _ _ _ h => h) (Or.inl ⟨by rfl, ?_⟩) ?_ ?_
    rotate_left
    · intro w'
      go_simp
      with_reducible rfl
    rotate_left
    · simp only [Act.put, List.setIfInBounds_toArray, List.set_cons_zero, List.set_cons_succ, i64_w, i32_w]
      rfl
    refine pure_ (i := 24) (N := some 161) (v := ?_) (a' := ?_) #[true, true, true, true, true, true, true, true, true, true, true, true, true, true, true, true, true, true, true, true, true, true, true, false, true, false, false, false, false, false, false, false, false] rfl rfl (by kernel_rfl) (fun _ _ _ h => h) (Or.inl ⟨by rfl, ?_⟩) ?_ ?_
    rotate_left
    · intro w'
      go_simp
      with_reducible rfl
    rotate_left
    · simp only [Act.put, List.setIfInBounds_toArray, List.set_cons_zero, List.set_cons_succ, i64_w, i32_w]
      rfl
    refine pure_ (i := 25) (N := some 162) (v := ?_) (a' := ?_) #[true, true, true, true, true, true, true, true, true, true, true, true, true, true, true, true, true, true, true, true, true, true, true, false, true, true, false, false, false, false, false, false, false] rfl rfl (by kernel_rfl) (fun _ _ _ h => h) (Or.inl ⟨by rfl, ?_⟩) ?_ ?_
    rotate_left
    · intro w'
      go_simp
      with_reducible rfl
    rotate_left
    · simp only [Act.put, List.setIfInBounds_toArray, List.set_cons_zero, List.set_cons_succ, i64_w, i32_w]
      rfl
    refine pure_ (i := 26) (N := some 163) (v := ?_) (a' := ?_) #[true, true, true, true, true, true, true, true, true, true, true, true, true, true, true, true, true, true, true, true, true, true, true, false, true, true, true, false, false, false, false, false, false] rfl rfl (by kernel_rfl) (fun _ _ _ h => h) (Or.inl ⟨by rfl, ?_⟩) ?_ ?_
    rotate_left
    · intro w'
      go_simp
      with_reducible rfl
    rotate_left
    · simp only [Act.put, List.setIfInBounds_toArray, List.set_cons_zero, List.set_cons_succ, i64_w, i32_w]
      rfl
    refine pure_ (i := 29) (N := some 166) (v := ?_) (a' := ?_) #[true, true, true, true, true, true, true, true, true, true, true, true, true, true, true, true, true, true, true, true, true, true, true, false, true, true, true, false, false, true, false, false, false] rfl rfl (by kernel_rfl) (fun _ _ _ h => h) (Or.inl ⟨by rfl, ?_⟩) ?_ ?_
    rotate_left
    · intro w'
      go_simp
      with_reducible rfl
    rotate_left
    · simp only [Act.put, List.setIfInBounds_toArray, List.set_cons_zero, List.set_cons_succ, i64_w, i32_w]
      rfl
    refine take_ (i := 23) (N := some 160) (v := ?_) (a' := ?_) #[true, true, true, true, true, true, true, true, true, true, true, true, true, true, true, true, true, true, true, true, true, true, true, true, true, true, true, false, false, true, false, false, false] rfl rfl (by kernel_rfl) (fun _ _ _ h => h) (Or.inl ⟨by rfl, ?_⟩) hHeld ?_ ?_
    rotate_left
    · rintro w' ⟨s0, s1, s2, s3⟩
      go_simp
      with_reducible rfl
    rotate_left
    · simp only [Act.put, List.setIfInBounds_toArray, List.set_cons_zero, List.set_cons_succ, i64_w, i32_w]
      rfl
    refine take_ (i := 27) (N := some 164) (v := ?_) (a' := ?_) #[true, true, true, true, true, true, true, true, true, true, true, true, true, true, true, true, true, true, true, true, true, true, true, true, true, true, true, true, false, true, false, false, false] rfl rfl (by kernel_rfl) (fun _ _ _ h => h) (Or.inl ⟨by rfl, ?_⟩) hHeld ?_ ?_
    rotate_left
    · rintro w' ⟨s0, s1, s2, s3⟩
      go_simp
      with_reducible rfl
    rotate_left
    · simp only [Act.put, List.setIfInBounds_toArray, List.set_cons_zero, List.set_cons_succ, i64_w, i32_w]
      rfl
    refine pure_ (i := 28) (N := some 165) (v := ?_) (a' := ?_) #[true, true, true, true, true, true, true, true, true, true, true, true, true, true, true, true, true, true, true, true, true, true, true, true, true, true, true, true, true, true, false, false, false] rfl rfl (by kernel_rfl) (fun _ _ _ h => h) (Or.inl ⟨by rfl, ?_⟩) ?_ ?_
    rotate_left
    · intro w'
      go_simp
      with_reducible rfl
    rotate_left
    · simp only [Act.put, List.setIfInBounds_toArray, List.set_cons_zero, List.set_cons_succ, i64_w, i32_w]
      rfl
    refine pure_ (i := 30) (N := some 167) (v := ?_) (a' := ?_) #[true, true, true, true, true, true, true, true, true, true, true, true, true, true, true, true, true, true, true, true, true, true, true, true, true, true, true, true, true, true, true, false, false] rfl rfl (by kernel_rfl) (fun _ _ _ h => h) (Or.inl ⟨by rfl, ?_⟩) ?_ ?_
    rotate_left
    · intro w'
      go_simp
      with_reducible rfl
    rotate_left
    · simp only [Act.put, List.setIfInBounds_toArray, List.set_cons_zero, List.set_cons_succ, i64_w, i32_w]
      rfl
    refine pure_ (i := 31) (N := some 168) (v := ?_) (a' := ?_) #[true, true, true, true, true, true, true, true, true, true, true, true, true, true, true, true, true, true, true, true, true, true, true, true, true, true, true, true, true, true, true, true, false] rfl rfl (by kernel_rfl) (fun _ _ _ h => h) (Or.inl ⟨by rfl, ?_⟩) ?_ ?_
    rotate_left
    · intro w'
      go_simp
      with_reducible rfl
    rotate_left
    · simp only [Act.put, List.setIfInBounds_toArray, List.set_cons_zero, List.set_cons_succ, i64_w, i32_w]
      rfl
    refine pure_ (i := 32) (N := some 6) (v := ?_) (a' := ?_) #[true, true, true, true, true, true, true, true, true, true, true, true, true, true, true, true, true, true, true, true, true, true, true, true, true, true, true, true, true, true, true, true, true] rfl rfl (by kernel_rfl) (fun _ _ _ h => h) (Or.inl ⟨by rfl, ?_⟩) ?_ ?_
    rotate_left
    · intro w'
      go_simp
      with_reducible rfl
    rotate_left
    · simp only [Act.put, List.setIfInBounds_toArray, List.set_cons_zero, List.set_cons_succ, i64_w, i32_w]
      rfl
    refine done_ (by kernel_rfl) ?_
    
    have hbw : Below w.heap.size w w3 := (B11.out.drew).trans (bd3.mono B11.out.size)
    go_wp2_with fail
    go_ret
    exact ⟨by rw [HEQ.out] <;> rfl, hbw⟩
  · clear HBB
    go_wp2_with fail
    refine (new_calls w7 (tab_mono (HTAB.out.on B7.out) B7.out.size)).mono ?_
    rintro e w8 ⟨rfl, ht8, hb8⟩
    have B8 := Aside0.mk (B7.out.trans (hb8.mono B7.out.size))
    obtain ⟨B, hB⟩ : ∃ B, B = w7.heap.size := ⟨_, rfl⟩
    have hwB : w.heap.size ≤ B := by rw [hB]; exact B7.out.size
    have hz8 : B ≤ w8.heap.size := by rw [hB]; exact hb8.size
    rw [← hB] at ht8 ⊢
    have T8 := Aside0.mk ht8
    have HWB := Aside0.mk hwB
    have HZ8 := Aside0.mk hz8
    clear ht8 hb8 hB hwB hz8
    go_wp2_with fail
    refine (tadd_first B (B + 1) B (.map []) A1 c1 more w8 T8.out HZ8.out (HM.out.below B8.out) (fun g' b' w' h1 h2 h3 => LR.of_C HM.out.C (fun W hW => (B8.out.trans (h1.mono B8.out.size)).trans (hW.bel.mono HWB.out)))).mono ?_
    rintro e w9 ⟨x0, x1, x2, gs, v, bm, D, rfl, ht9, hb9, hm9, hg9⟩
    have T9 := Aside0.mk ht9
    have B9 : Aside0 (Below w.heap.size w w9) := ⟨B8.out.trans (hb9.mono HWB.out)⟩
    have HZ9 : Aside0 (B ≤ w9.heap.size) := ⟨Nat.le_trans HZ8.out hb9.size⟩
    have HM9 := Aside0.mk (And.intro hm9 hg9)
    clear ht9 hb9 hm9 hg9
    go_wp2_with fail
    have hwl := HL.out.w
    have htc := tcount_le_wL l
    refine (tadd_calls B (B + 1) bm gs v D A0 c0 l w9 T9.out HZ9.out (HL.out.below B9.out).C HL.out.cap (fun g' b' w' h1 h2 h3 => LR.of_C HL.out.C (fun W hW => (B9.out.trans (h1.mono B9.out.size)).trans (hW.bel.mono HWB.out))) (sok_all (by omega)) (rin_all (by omega) HL.out.inn) (by omega) (by omega) (by have := HM9.out.1; omega) (by have := HM9.out.2; omega)).mono ?_
    intro e w10 hout
    unfold TAddOut at hout
    rcases hout with ⟨hn, _⟩ | ⟨_, hout⟩
    · exact absurd HCL.out hn
    obtain ⟨st, hst⟩ : ∃ st, st = addTo 10000 (gs, []) l := ⟨_, rfl⟩
    rw [← hst] at hout
    have HST := Aside0.mk hst
    clear hst hwl htc
    rcases st with _ | ⟨gs1, ids⟩
    · obtain ⟨⟨n, rfl⟩, hf⟩ := hout
      have F10 := Aside0.mk hf
      clear hf
      go_wp2_with fail
      go_ret
      exact ⟨rfl, B9.out.trans (F10.out.bel.mono HWB.out)⟩
    obtain ⟨vi, v1, bm1, D1, rfl, ht10, hi10, hf10⟩ := hout
    have T10 := Aside0.mk (ht10.weak (ok' := fun _ => True) (fun _ _ => trivial))
    have HI10 := Aside0.mk hi10
    have B10 : Aside0 (Below w.heap.size w w10) := ⟨B9.out.trans (hf10.bel.mono HWB.out)⟩
    have HZ10 : Aside0 (B ≤ w10.heap.size) := ⟨Nat.le_trans HZ9.out hf10.bel.size⟩
    obtain ⟨Ai, ci, hvi⟩ := Kd.R_slice hi10
    subst hvi
    have HLE := Aside0.mk (addTo_le 10000 l gs gs1 [] ids HST.out.symm)
    have HAG := Aside0.mk (addTo_again 10000 10000 l gs gs1 ids HST.out.symm (Dist.of_PM T9.out.pm))
    clear ht10 hi10 hf10
    go_wp2_with fail
    have hwl := HL.out.w
    have htc := tcount_le_wL l
    refine (tadd_calls B (B + 1) bm1 gs1 v1 D1 A0 c0 l w10 T10.out HZ10.out (HL.out.below B10.out).C HL.out.cap (fun g' b' w' h1 h2 h3 => LR.of_C HL.out.C (fun W hW => (B10.out.trans (h1.mono B10.out.size)).trans (hW.bel.mono HWB.out))) (sok_all (by omega)) (rin_all (by omega) HL.out.inn) (by omega) (by omega) (by have := HM9.out.1; have := HLE.out.1; omega) (by have := HM9.out.2; have := HLE.out.2.1; omega)).mono ?_
    intro e w11 hout
    unfold TAddOut at hout
    rcases hout with ⟨hn, _⟩ | ⟨_, hout⟩
    · exact absurd HCL.out hn
    rw [HAG.out] at hout
    obtain ⟨vj, v2, bm2, D2, rfl, ht11, hi11, hf11⟩ := hout
    have B11 : Aside0 (Below w.heap.size w w11) := ⟨B10.out.trans (hf11.bel.mono HWB.out)⟩
    obtain ⟨Aj, cj, hvj⟩ := Kd.R_slice hi11
    subst hvj
    have hri : Kd.R (Kd.int .i64) 3 w11 w9.heap.size (fun _ => True) (.slice Ai ids.length ci) ids := fr_row hf11 HI10.out ⟨_, _, T10.out.box, by show (47 : Nat) ≠ 3; decide⟩ (fun cs t h => by obtain ⟨es, clock, hb, _⟩ := T10.out.map; rw [hb] at h; cases h)
    obtain ⟨_, _, e1, hci, hCi⟩ := Kd.R_reads hri
    injection e1 with e1 e2 e3
    subst e1 e3
    obtain ⟨_, _, e4, hcj, hCj⟩ := Kd.R_reads hi11
    injection e4 with e4 e5 e6
    subst e4 e6
    have e0 : ([] : List Int).length = 0 := rfl
    have hli : (x : Int) < ids.length := by have h1_ := HLE.out.2.2; rw [e0] at h1_; have := HXX.out.2; omega
    have hlj : (y : Int) < ids.length := by have h1_ := HLE.out.2.2; rw [e0] at h1_; have := HYY.out.2; omega
    have hx0 : 0 ≤ x := HXX.out.1
    have hy0 : 0 ≤ y := HYY.out.1
    obtain ⟨ai, ei, hxi⟩ := Kd.at_int hCi x hx0 hli
    obtain ⟨aj, ej, hyj⟩ := Kd.at_int hCi y hy0 hlj
    subst ei
    injection ej with ej
    subst ej
    have HEQ : Aside0 ((rd ids x == rd ids y) = true) := ⟨by
      obtain ⟨g1, i1, h1_, h2_⟩ := oneIds_self (l := l) (by have := tcount_le_wL l; have := HL.out.w; omega)
      have h3_ := oneM_ok HCL.out HCL.out ⟨HXX.out.1, HXX.out.2, HYY.out.1, HYY.out.2⟩
      rw [HONE.out, h2_] at h3_
      have h4_ : true = (rd i1 x == rd i1 y) := congrArg Prod.fst h3_
      rw [h4_, Bool.eq_iff_iff, beq_iff_eq, beq_iff_eq]
      exact ids_alike HCL.out HST.out.symm h1_ (Dist.of_PM T9.out.pm) Dist.nil x y HXX.out HYY.out⟩
    have HIL : Aside0 (ids.length ≤ 1099511627776) := ⟨by have h1_ := HLE.out.2.2; rw [e0] at h1_; have := tcount_le_wL l; have := HL.out.w; omega⟩
    have HX := Aside0.mk (And.intro hxi hyj)
    have HCI := Aside0.mk hCi
    have HCJ := Aside0.mk hCj
    have HCP := Aside0.mk (And.intro hci hcj)
    clear ht11 hi11 hf11 hri hCi hCj hxi hyj e2 e5 e0 hwl htc hci hcj
    obtain ⟨p1, hp1⟩ : ∃ p, p = rd ids x := ⟨_, rfl⟩
    obtain ⟨p2, hp2⟩ : ∃ p, p = rd ids y := ⟨_, rfl⟩
    rw [← hp1, ← hp2] at HEQ HX
    clear hp1 hp2
    go_wp2_with fail
    refine start_ (n := 33) (S := fun w' => Kd.C (Kd.int .i64) w' (some ai) ids.length ids ∧ Kd.C (Kd.int .i64) w' Aj ids.length ids ∧ w'.cell? (ai.add x.toNat) = some (.int .i64 p1) ∧ w'.cell? (ai.add y.toNat) = some (.int .i64 p2)) (ds := []) #[false, false, false, false, false, false, false, false, false, false, false, false, false, false, false, false, false, false, false, false, false, false, false, false, false, false, false, false, false, false, false, false, false] (by kernel_rfl) rfl rfl ⟨Kd.C_below HCI.out ((Below.refl _ _).drew), Kd.C_below HCJ.out ((Below.refl _ _).drew), HX.out.1, HX.out.2⟩ (fun hHeld => ?_)
    refine pure_ (i := 0) (N := some 137) (v := ?_) (a' := ?_) #[true, false, false, false, false, false, false, false, false, false, false, false, false, false, false, false, false, false, false, false, false, false, false, false, false, false, false, false, false, false, false, false, false] rfl rfl (by kernel_rfl) (fun _ _ _ h => h) (Or.inl ⟨by rfl, ?_⟩) ?_ ?_
    rotate_left
    · intro w'
      go_simp
      with_reducible rfl
    rotate_left
    · simp only [Act.put, List.setIfInBounds_toArray, List.set_cons_zero, List.set_cons_succ, i64_w, i32_w]
      rfl
    refine pure_ (i := 1) (N := some 138) (v := ?_) (a' := ?_) #[true, true, false, false, false, false, false, false, false, false, false, false, false, false, false, false, false, false, false, false, false, false, false, false, false, false, false, false, false, false, false, false, false] rfl rfl (by kernel_rfl) (fun _ _ _ h => h) (Or.inl ⟨by rfl, ?_⟩) ?_ ?_
    rotate_left
    · intro w'
      go_simp
      with_reducible rfl
    rotate_left
    · simp only [Act.put, List.setIfInBounds_toArray, List.set_cons_zero, List.set_cons_succ, i64_w, i32_w]
      rfl
    refine pure_ (i := 2) (N := some 139) (v := ?_) (a' := ?_) #[true, true, true, false, false, false, false, false, false, false, false, false, false, false, false, false, false, false, false, false, false, false, false, false, false, false, false, false, false, false, false, false, false] rfl rfl (by kernel_rfl) (fun _ _ _ h => h) (Or.inl ⟨by rfl, ?_⟩) ?_ ?_
    rotate_left
    · intro w'
      go_simp
      with_reducible rfl
    rotate_left
    · simp only [Act.put, List.setIfInBounds_toArray, List.set_cons_zero, List.set_cons_succ, i64_w, i32_w]
      rfl
    refine pure_ (i := 3) (N := some 140) (v := ?_) (a' := ?_) #[true, true, true, true, false, false, false, false, false, false, false, false, false, false, false, false, false, false, false, false, false, false, false, false, false, false, false, false, false, false, false, false, false] rfl rfl (by kernel_rfl) (fun _ _ _ h => h) (Or.inl ⟨by rfl, ?_⟩) ?_ ?_
    rotate_left
    · intro w'
      go_simp
      with_reducible rfl
    rotate_left
    · simp only [Act.put, List.setIfInBounds_toArray, List.set_cons_zero, List.set_cons_succ, i64_w, i32_w]
      rfl
    refine pure_ (i := 4) (N := some 141) (v := ?_) (a' := ?_) #[true, true, true, true, true, false, false, false, false, false, false, false, false, false, false, false, false, false, false, false, false, false, false, false, false, false, false, false, false, false, false, false, false] rfl rfl (by kernel_rfl) (fun _ _ _ h => h) (Or.inl ⟨by rfl, ?_⟩) ?_ ?_
    rotate_left
    · intro w'
      go_simp
      with_reducible rfl
    rotate_left
    · simp only [Act.put, List.setIfInBounds_toArray, List.set_cons_zero, List.set_cons_succ, i64_w, i32_w]
      rfl
    refine one_ (i := 5) (N := some 142) #[true, true, true, true, true, true, false, false, false, false, false, false, false, false, false, false, false, false, false, false, false, false, false, false, false, false, false, false, false, false, false, false, false] rfl rfl (by kernel_rfl) (by decide) (fun K hK => ?_)
    refine goes_ Tryd.func20 (by kernel_rfl) rfl #[.slice (some ai) ids.length ci, .slice Aj ids.length cj] (by rfl) rfl rfl (by simp only [List.map_toArray, List.map_cons, List.map_nil]; rfl) ?_
    with_reducible refine (ratchetlaw06_ints.calls (ids.length + 1) (some ai) ci ids Aj cj ids true _ hHeld.1 HCP.out.1 hHeld.2.1 HCP.out.2 (ints_refl ids HIL.out)).mono ?_
    rintro e w3 ⟨rfl, hd3⟩
    refine ⟨_, rfl, ?_⟩
    have bd3 := hd3.below
    refine hK.out _ _ ⟨Kd.C_below hHeld.1 bd3, Kd.C_below hHeld.2.1 bd3, (bd3.cell (World.block_lt_of_cell? _ _ hHeld.2.2.1)).trans hHeld.2.2.1, (bd3.cell (World.block_lt_of_cell? _ _ hHeld.2.2.2)).trans hHeld.2.2.2⟩ (fun hHeld => ?_)
    clear hK K
    refine norm_ (a' := ?_) ?_ ?_
    rotate_left
    · show Act.put _ (some 142) _ = _
      simp only [Act.put, List.setIfInBounds_toArray, List.set_cons_zero, List.set_cons_succ, i64_w, i32_w]
      rfl
    refine pure_ (i := 6) (N := some 143) (v := ?_) (a' := ?_) #[true, true, true, true, true, true, true, false, false, false, false, false, false, false, false, false, false, false, false, false, false, false, false, false, false, false, false, false, false, false, false, false, false] rfl rfl (by kernel_rfl) (fun _ _ _ h => h) (Or.inl ⟨by rfl, ?_⟩) ?_ ?_
    rotate_left
    · intro w'
      go_simp
      with_reducible rfl
    rotate_left
    · simp only [Act.put, List.setIfInBounds_toArray, List.set_cons_zero, List.set_cons_succ, i64_w, i32_w]
      rfl
    refine pure_ (i := 7) (N := some 144) (v := ?_) (a' := ?_) #[true, true, true, true, true, true, true, true, false, false, false, false, false, false, false, false, false, false, false, false, false, false, false, false, false, false, false, false, false, false, false, false, false] rfl rfl (by kernel_rfl) (fun _ _ _ h => h) (Or.inl ⟨by rfl, ?_⟩) ?_ ?_
    rotate_left
    · intro w'
      go_simp
      with_reducible rfl
    rotate_left
    · simp only [Act.put, List.setIfInBounds_toArray, List.set_cons_zero, List.set_cons_succ, i64_w, i32_w]
      rfl
    refine pure_ (i := 8) (N := some 145) (v := ?_) (a' := ?_) #[true, true, true, true, true, true, true, true, true, false, false, false, false, false, false, false, false, false, false, false, false, false, false, false, false, false, false, false, false, false, false, false, false] rfl rfl (by kernel_rfl) (fun _ _ _ h => h) (Or.inl ⟨by rfl, ?_⟩) ?_ ?_
    rotate_left
    · intro w'
      go_simp
      with_reducible rfl
    rotate_left
    · simp only [Act.put, List.setIfInBounds_toArray, List.set_cons_zero, List.set_cons_succ, i64_w, i32_w]
      rfl
    refine pure_ (i := 9) (N := some 146) (v := ?_) (a' := ?_) #[true, true, true, true, true, true, true, true, true, true, false, false, false, false, false, false, false, false, false, false, false, false, false, false, false, false, false, false, false, false, false, false, false] rfl rfl (by kernel_rfl) (fun _ _ _ h => h) (Or.inl ⟨by rfl, ?_⟩) ?_ ?_
    rotate_left
    · intro w'
      go_simp
      with_reducible rfl
    rotate_left
    · simp only [Act.put, List.setIfInBounds_toArray, List.set_cons_zero, List.set_cons_succ, i64_w, i32_w]
      rfl
    refine pure_ (i := 10) (N := some 147) (v := ?_) (a' := ?_) #[true, true, true, true, true, true, true, true, true, true, true, false, false, false, false, false, false, false, false, false, false, false, false, false, false, false, false, false, false, false, false, false, false] rfl rfl (by kernel_rfl) (fun _ _ _ h => h) (Or.inl ⟨by rfl, ?_⟩) ?_ ?_
    rotate_left
    · intro w'
      go_simp
      with_reducible rfl
    rotate_left
    · simp only [Act.put, List.setIfInBounds_toArray, List.set_cons_zero, List.set_cons_succ, i64_w, i32_w]
      rfl
    refine pure_ (i := 11) (N := some 148) (v := ?_) (a' := ?_) #[true, true, true, true, true, true, true, true, true, true, true, true, false, false, false, false, false, false, false, false, false, false, false, false, false, false, false, false, false, false, false, false, false] rfl rfl (by kernel_rfl) (fun _ _ _ h => h) (Or.inl ⟨by rfl, ?_⟩) ?_ ?_
    rotate_left
    · intro w'
      go_simp
      with_reducible rfl
    rotate_left
    · simp only [Act.put, List.setIfInBounds_toArray, List.set_cons_zero, List.set_cons_succ, i64_w, i32_w]
      rfl
    refine pure_ (i := 12) (N := some 149) (v := ?_) (a' := ?_) #[true, true, true, true, true, true, true, true, true, true, true, true, true, false, false, false, false, false, false, false, false, false, false, false, false, false, false, false, false, false, false, false, false] rfl rfl (by kernel_rfl) (fun _ _ _ h => h) (Or.inl ⟨by rfl, ?_⟩) ?_ ?_
    rotate_left
    · intro w'
      go_simp
      with_reducible rfl
    rotate_left
    · simp only [Act.put, List.setIfInBounds_toArray, List.set_cons_zero, List.set_cons_succ, i64_w, i32_w]
      rfl
    refine pure_ (i := 13) (N := some 150) (v := ?_) (a' := ?_) #[true, true, true, true, true, true, true, true, true, true, true, true, true, true, false, false, false, false, false, false, false, false, false, false, false, false, false, false, false, false, false, false, false] rfl rfl (by kernel_rfl) (fun _ _ _ h => h) (Or.inl ⟨by rfl, ?_⟩) ?_ ?_
    rotate_left
    · intro w'
      go_simp
      with_reducible rfl
    rotate_left
    · simp only [Act.put, List.setIfInBounds_toArray, List.set_cons_zero, List.set_cons_succ, i64_w, i32_w]
      rfl
    refine pure_ (i := 14) (N := some 151) (v := ?_) (a' := ?_) #[true, true, true, true, true, true, true, true, true, true, true, true, true, true, true, false, false, false, false, false, false, false, false, false, false, false, false, false, false, false, false, false, false] rfl rfl (by kernel_rfl) (fun _ _ _ h => h) (Or.inl ⟨by rfl, ?_⟩) ?_ ?_
    rotate_left
    · intro w'
      go_simp
      with_reducible rfl
    rotate_left
    · simp only [Act.put, List.setIfInBounds_toArray, List.set_cons_zero, List.set_cons_succ, i64_w, i32_w]
      rfl
    refine pure_ (i := 15) (N := some 152) (v := ?_) (a' := ?_) #[true, true, true, true, true, true, true, true, true, true, true, true, true, true, true, true, false, false, false, false, false, false, false, false, false, false, false, false, false, false, false, false, false] rfl rfl (by kernel_rfl) (fun _ _ _ h => h) (Or.inl ⟨by rfl, ?_⟩) ?_ ?_
    rotate_left
    · intro w'
      go_simp
      with_reducible rfl
    rotate_left
    · simp only [Act.put, List.setIfInBounds_toArray, List.set_cons_zero, List.set_cons_succ, i64_w, i32_w]
      rfl
    refine pure_ (i := 16) (N := some 153) (v := ?_) (a' := ?_) #[true, true, true, true, true, true, true, true, true, true, true, true, true, true, true, true, true, false, false, false, false, false, false, false, false, false, false, false, false, false, false, false, false] rfl rfl (by kernel_rfl) (fun _ _ _ h => h) (Or.inl ⟨by rfl, ?_⟩) ?_ ?_
    rotate_left
    · intro w'
      go_simp
      with_reducible rfl
    rotate_left
    · simp only [Act.put, List.setIfInBounds_toArray, List.set_cons_zero, List.set_cons_succ, i64_w, i32_w]
      rfl
    refine pure_ (i := 17) (N := some 154) (v := ?_) (a' := ?_) #[true, true, true, true, true, true, true, true, true, true, true, true, true, true, true, true, true, true, false, false, false, false, false, false, false, false, false, false, false, false, false, false, false] rfl rfl (by kernel_rfl) (fun _ _ _ h => h) (Or.inl ⟨by rfl, ?_⟩) ?_ ?_
    rotate_left
    · intro w'
      go_simp
      with_reducible rfl
    rotate_left
    · simp only [Act.put, List.setIfInBounds_toArray, List.set_cons_zero, List.set_cons_succ, i64_w, i32_w]
      rfl
    refine pure_ (i := 18) (N := some 155) (v := ?_) (a' := ?_) #[true, true, true, true, true, true, true, true, true, true, true, true, true, true, true, true, true, true, true, false, false, false, false, false, false, false, false, false, false, false, false, false, false] rfl rfl (by kernel_rfl) (fun _ _ _ h => h) (Or.inl ⟨by rfl, ?_⟩) ?_ ?_
    rotate_left
    · intro w'
      go_simp
      with_reducible rfl
    rotate_left
    · simp only [Act.put, List.setIfInBounds_toArray, List.set_cons_zero, List.set_cons_succ, i64_w, i32_w]
      rfl
    refine pure_ (i := 19) (N := some 156) (v := ?_) (a' := ?_) #[true, true, true, true, true, true, true, true, true, true, true, true, true, true, true, true, true, true, true, true, false, false, false, false, false, false, false, false, false, false, false, false, false] rfl rfl (by kernel_rfl) (fun _ _ _ h => h) (Or.inl ⟨by rfl, ?_⟩) ?_ ?_
    rotate_left
    · intro w'
      go_simp
      with_reducible rfl
    rotate_left
    · simp only [Act.put, List.setIfInBounds_toArray, List.set_cons_zero, List.set_cons_succ, i64_w, i32_w]
      rfl
    refine pure_ (i := 20) (N := some 157) (v := ?_) (a' := ?_) #[true, true, true, true, true, true, true, true, true, true, true, true, true, true, true, true, true, true, true, true, true, false, false, false, false, false, false, false, false, false, false, false, false] rfl rfl (by kernel_rfl) (fun _ _ _ h => h) (Or.inl ⟨by rfl, ?_⟩) ?_ ?_
    rotate_left
    · intro w'
      go_simp
      with_reducible rfl
    rotate_left
    · simp only [Act.put, List.setIfInBounds_toArray, List.set_cons_zero, List.set_cons_succ, i64_w, i32_w]
      rfl
    refine pure_ (i := 21) (N := some 158) (v := ?_) (a' := ?_) #[true, true, true, true, true, true, true, true, true, true, true, true, true, true, true, true, true, true, true, true, true, true, false, false, false, false, false, false, false, false, false, false, false] rfl rfl (by kernel_rfl) (fun _ _ _ h => h) (Or.inl ⟨by rfl, ?_⟩) ?_ ?_
    rotate_left
    · intro w'
      go_simp
      with_reducible rfl
    rotate_left
    · simp only [Act.put, List.setIfInBounds_toArray, List.set_cons_zero, List.set_cons_succ, i64_w, i32_w]
      rfl
    refine pure_ (i := 22) (N := some 159) (v := ?_) (a' := ?_) #[true, true, true, true, true, true, true, true, true, true, true, true, true, true, true, true, true, true, true, true, true, true, true, false, false, false, false, false, false, false, false, false, false] rfl rfl (by kernel_rfl) (fun _ _ _ h => h) (Or.inl ⟨by rfl, ?_⟩) ?_ ?_
    rotate_left
    · intro w'
      go_simp
      with_reducible rfl
    rotate_left
    · simp only [Act.put, List.setIfInBounds_toArray, List.set_cons_zero, List.set_cons_succ, i64_w, i32_w]
      rfl
    refine pure_ (i := 24) (N := some 161) (v := ?_) (a' := ?_) #[true, true, true, true, true, true, true, true, true, true, true, true, true, true, true, true, true, true, true, true, true, true, true, false, true, false, false, false, false, false, false, false, false] rfl rfl (by kernel_rfl) (fun _ _ _ h => h) (Or.inl ⟨by rfl, ?_⟩) ?_ ?_
    rotate_left
    · intro w'
      go_simp
      with_reducible rfl
    rotate_left
    · simp only [Act.put, List.setIfInBounds_toArray, List.set_cons_zero, List.set_cons_succ, i64_w, i32_w]
      rfl
    refine pure_ (i := 25) (N := some 162) (v := ?_) (a' := ?_) #[true, true, true, true, true, true, true, true, true, true, true, true, true, true, true, true, true, true, true, true, true, true, true, false, true, true, false, false, false, false, false, false, false] rfl rfl (by kernel_rfl) (fun _ _ _ h => h) (Or.inl ⟨by rfl, ?_⟩) ?_ ?_
    rotate_left
    · intro w'
      go_simp
      with_reducible rfl
    rotate_left
    · simp only [Act.put, List.setIfInBounds_toArray, List.set_cons_zero, List.set_cons_succ, i64_w, i32_w]
      rfl
    refine pure_ (i := 26) (N := some 163) (v := ?_) (a' := ?_) #[true, true, true, true, true, true, true, true, true, true, true, true, true, true, true, true, true, true, true, true, true, true, true, false, true, true, true, false, false, false, false, false, false] rfl rfl (by kernel_rfl) (fun _ _ _ h => h) (Or.inl ⟨by rfl, ?_⟩) ?_ ?_
    rotate_left
    · intro w'
      go_simp
      with_reducible rfl
    rotate_left
    · simp only [Act.put, List.setIfInBounds_toArray, List.set_cons_zero, List.set_cons_succ, i64_w, i32_w]
      rfl
    refine pure_ (i := 29) (N := some 166) (v := ?_) (a' := ?_) #[true, true, true, true, true, true, true, true, true, true, true, true, true, true, true, true, true, true, true, true, true, true, true, false, true, true, true, false, false, true, false, false, false] rfl rfl (by kernel_rfl) (fun _ _ _ h => h) (Or.inl ⟨by rfl, ?_⟩) ?_ ?_
    rotate_left
    · intro w'
      go_simp
      with_reducible rfl
    rotate_left
    · simp only [Act.put, List.setIfInBounds_toArray, List.set_cons_zero, List.set_cons_succ, i64_w, i32_w]
      rfl
    refine take_ (i := 23) (N := some 160) (v := ?_) (a' := ?_) #[true, true, true, true, true, true, true, true, true, true, true, true, true, true, true, true, true, true, true, true, true, true, true, true, true, true, true, false, false, true, false, false, false] rfl rfl (by kernel_rfl) (fun _ _ _ h => h) (Or.inl ⟨by rfl, ?_⟩) hHeld ?_ ?_
    rotate_left
    · rintro w' ⟨s0, s1, s2, s3⟩
      go_simp
      with_reducible rfl
    rotate_left
    · simp only [Act.put, List.setIfInBounds_toArray, List.set_cons_zero, List.set_cons_succ, i64_w, i32_w]
      rfl
    refine take_ (i := 27) (N := some 164) (v := ?_) (a' := ?_) #[true, true, true, true, true, true, true, true, true, true, true, true, true, true, true, true, true, true, true, true, true, true, true, true, true, true, true, true, false, true, false, false, false] rfl rfl (by kernel_rfl) (fun _ _ _ h => h) (Or.inl ⟨by rfl, ?_⟩) hHeld ?_ ?_
    rotate_left
    · rintro w' ⟨s0, s1, s2, s3⟩
      go_simp
      with_reducible rfl
    rotate_left
    · simp only [Act.put, List.setIfInBounds_toArray, List.set_cons_zero, List.set_cons_succ, i64_w, i32_w]
      rfl
    refine pure_ (i := 28) (N := some 165) (v := ?_) (a' := ?_) #[true, true, true, true, true, true, true, true, true, true, true, true, true, true, true, true, true, true, true, true, true, true, true, true, true, true, true, true, true, true, false, false, false] rfl rfl (by kernel_rfl) (fun _ _ _ h => h) (Or.inl ⟨by rfl, ?_⟩) ?_ ?_
    rotate_left
    · intro w'
      go_simp
      with_reducible rfl
    rotate_left
    · simp only [Act.put, List.setIfInBounds_toArray, List.set_cons_zero, List.set_cons_succ, i64_w, i32_w]
      rfl
    refine pure_ (i := 30) (N := some 167) (v := ?_) (a' := ?_) #[true, true, true, true, true, true, true, true, true, true, true, true, true, true, true, true, true, true, true, true, true, true, true, true, true, true, true, true, true, true, true, false, false] rfl rfl (by kernel_rfl) (fun _ _ _ h => h) (Or.inl ⟨by rfl, ?_⟩) ?_ ?_
    rotate_left
    · intro w'
      go_simp
      with_reducible rfl
    rotate_left
    · simp only [Act.put, List.setIfInBounds_toArray, List.set_cons_zero, List.set_cons_succ, i64_w, i32_w]
      rfl
    refine pure_ (i := 31) (N := some 168) (v := ?_) (a' := ?_) #[true, true, true, true, true, true, true, true, true, true, true, true, true, true, true, true, true, true, true, true, true, true, true, true, true, true, true, true, true, true, true, true, false] rfl rfl (by kernel_rfl) (fun _ _ _ h => h) (Or.inl ⟨by rfl, ?_⟩) ?_ ?_
    rotate_left
    · intro w'
      go_simp
      with_reducible rfl
    rotate_left
    · simp only [Act.put, List.setIfInBounds_toArray, List.set_cons_zero, List.set_cons_succ, i64_w, i32_w]
      rfl
    refine pure_ (i := 32) (N := some 6) (v := ?_) (a' := ?_) #[true, true, true, true, true, true, true, true, true, true, true, true, true, true, true, true, true, true, true, true, true, true, true, true, true, true, true, true, true, true, true, true, true] rfl rfl (by kernel_rfl) (fun _ _ _ h => h) (Or.inl ⟨by rfl, ?_⟩) ?_ ?_
    rotate_left
    · intro w'
      go_simp
      with_reducible rfl
    rotate_left
    · simp only [Act.put, List.setIfInBounds_toArray, List.set_cons_zero, List.set_cons_succ, i64_w, i32_w]
      rfl
    refine done_ (by kernel_rfl) ?_
    
    have hbw : Below w.heap.size w w3 := (B11.out.drew).trans (bd3.mono B11.out.size)
    go_wp2_with fail
    go_ret
    exact ⟨by rw [HEQ.out] <;> rfl, hbw⟩
  · clear HBB
    go_wp2_with fail
    refine (new_calls w7 (tab_mono (HTAB.out.on B7.out) B7.out.size)).mono ?_
    rintro e w8 ⟨rfl, ht8, hb8⟩
    have B8 := Aside0.mk (B7.out.trans (hb8.mono B7.out.size))
    obtain ⟨B, hB⟩ : ∃ B, B = w7.heap.size := ⟨_, rfl⟩
    have hwB : w.heap.size ≤ B := by rw [hB]; exact B7.out.size
    have hz8 : B ≤ w8.heap.size := by rw [hB]; exact hb8.size
    rw [← hB] at ht8 ⊢
    have T8 := Aside0.mk ht8
    have HWB := Aside0.mk hwB
    have HZ8 := Aside0.mk hz8
    clear ht8 hb8 hB hwB hz8
    go_wp2_with fail
    refine (tadd_first B (B + 1) B (.map []) A1 c1 more w8 T8.out HZ8.out (HM.out.below B8.out) (fun g' b' w' h1 h2 h3 => LR.of_C HM.out.C (fun W hW => (B8.out.trans (h1.mono B8.out.size)).trans (hW.bel.mono HWB.out)))).mono ?_
    rintro e w9 ⟨x0, x1, x2, gs, v, bm, D, rfl, ht9, hb9, hm9, hg9⟩
    have T9 := Aside0.mk ht9
    have B9 : Aside0 (Below w.heap.size w w9) := ⟨B8.out.trans (hb9.mono HWB.out)⟩
    have HZ9 : Aside0 (B ≤ w9.heap.size) := ⟨Nat.le_trans HZ8.out hb9.size⟩
    have HM9 := Aside0.mk (And.intro hm9 hg9)
    clear ht9 hb9 hm9 hg9
    go_wp2_with fail
    have hwl := HL.out.w
    have htc := tcount_le_wL l
    refine (tadd_calls B (B + 1) bm gs v D A0 c0 l w9 T9.out HZ9.out (HL.out.below B9.out).C HL.out.cap (fun g' b' w' h1 h2 h3 => LR.of_C HL.out.C (fun W hW => (B9.out.trans (h1.mono B9.out.size)).trans (hW.bel.mono HWB.out))) (sok_all (by omega)) (rin_all (by omega) HL.out.inn) (by omega) (by omega) (by have := HM9.out.1; omega) (by have := HM9.out.2; omega)).mono ?_
    intro e w10 hout
    unfold TAddOut at hout
    rcases hout with ⟨hn, _⟩ | ⟨_, hout⟩
    · exact absurd HCL.out hn
    obtain ⟨st, hst⟩ : ∃ st, st = addTo 10000 (gs, []) l := ⟨_, rfl⟩
    rw [← hst] at hout
    have HST := Aside0.mk hst
    clear hst hwl htc
    rcases st with _ | ⟨gs1, ids⟩
    · obtain ⟨⟨n, rfl⟩, hf⟩ := hout
      have F10 := Aside0.mk hf
      clear hf
      go_wp2_with fail
      go_ret
      exact ⟨rfl, B9.out.trans (F10.out.bel.mono HWB.out)⟩
    obtain ⟨vi, v1, bm1, D1, rfl, ht10, hi10, hf10⟩ := hout
    have T10 := Aside0.mk (ht10.weak (ok' := fun _ => True) (fun _ _ => trivial))
    have HI10 := Aside0.mk hi10
    have B10 : Aside0 (Below w.heap.size w w10) := ⟨B9.out.trans (hf10.bel.mono HWB.out)⟩
    have HZ10 : Aside0 (B ≤ w10.heap.size) := ⟨Nat.le_trans HZ9.out hf10.bel.size⟩
    obtain ⟨Ai, ci, hvi⟩ := Kd.R_slice hi10
    subst hvi
    have HLE := Aside0.mk (addTo_le 10000 l gs gs1 [] ids HST.out.symm)
    have HAG := Aside0.mk (addTo_again 10000 10000 l gs gs1 ids HST.out.symm (Dist.of_PM T9.out.pm))
    clear ht10 hi10 hf10
    go_wp2_with fail
    have hwl := HL.out.w
    have htc := tcount_le_wL l
    refine (tadd_calls B (B + 1) bm1 gs1 v1 D1 A0 c0 l w10 T10.out HZ10.out (HL.out.below B10.out).C HL.out.cap (fun g' b' w' h1 h2 h3 => LR.of_C HL.out.C (fun W hW => (B10.out.trans (h1.mono B10.out.size)).trans (hW.bel.mono HWB.out))) (sok_all (by omega)) (rin_all (by omega) HL.out.inn) (by omega) (by omega) (by have := HM9.out.1; have := HLE.out.1; omega) (by have := HM9.out.2; have := HLE.out.2.1; omega)).mono ?_
    intro e w11 hout
    unfold TAddOut at hout
    rcases hout with ⟨hn, _⟩ | ⟨_, hout⟩
    · exact absurd HCL.out hn
    rw [HAG.out] at hout
    obtain ⟨vj, v2, bm2, D2, rfl, ht11, hi11, hf11⟩ := hout
    have B11 : Aside0 (Below w.heap.size w w11) := ⟨B10.out.trans (hf11.bel.mono HWB.out)⟩
    obtain ⟨Aj, cj, hvj⟩ := Kd.R_slice hi11
    subst hvj
    have hri : Kd.R (Kd.int .i64) 3 w11 w9.heap.size (fun _ => True) (.slice Ai ids.length ci) ids := fr_row hf11 HI10.out ⟨_, _, T10.out.box, by show (47 : Nat) ≠ 3; decide⟩ (fun cs t h => by obtain ⟨es, clock, hb, _⟩ := T10.out.map; rw [hb] at h; cases h)
    obtain ⟨_, _, e1, hci, hCi⟩ := Kd.R_reads hri
    injection e1 with e1 e2 e3
    subst e1 e3
    obtain ⟨_, _, e4, hcj, hCj⟩ := Kd.R_reads hi11
    injection e4 with e4 e5 e6
    subst e4 e6
    have e0 : ([] : List Int).length = 0 := rfl
    have hli : (x : Int) < ids.length := by have h1_ := HLE.out.2.2; rw [e0] at h1_; have := HXX.out.2; omega
    have hlj : (y : Int) < ids.length := by have h1_ := HLE.out.2.2; rw [e0] at h1_; have := HYY.out.2; omega
    have hx0 : 0 ≤ x := HXX.out.1
    have hy0 : 0 ≤ y := HYY.out.1
    obtain ⟨ai, ei, hxi⟩ := Kd.at_int hCi x hx0 hli
    obtain ⟨aj, ej, hyj⟩ := Kd.at_int hCi y hy0 hlj
    subst ei
    injection ej with ej
    subst ej
    have HEQ : Aside0 ((rd ids x == rd ids y) = true) := ⟨by
      obtain ⟨g1, i1, h1_, h2_⟩ := oneIds_self (l := l) (by have := tcount_le_wL l; have := HL.out.w; omega)
      have h3_ := oneM_ok HCL.out HCL.out ⟨HXX.out.1, HXX.out.2, HYY.out.1, HYY.out.2⟩
      rw [HONE.out, h2_] at h3_
      have h4_ : true = (rd i1 x == rd i1 y) := congrArg Prod.fst h3_
      rw [h4_, Bool.eq_iff_iff, beq_iff_eq, beq_iff_eq]
      exact ids_alike HCL.out HST.out.symm h1_ (Dist.of_PM T9.out.pm) Dist.nil x y HXX.out HYY.out⟩
    have HIL : Aside0 (ids.length ≤ 1099511627776) := ⟨by have h1_ := HLE.out.2.2; rw [e0] at h1_; have := tcount_le_wL l; have := HL.out.w; omega⟩
    have HX := Aside0.mk (And.intro hxi hyj)
    have HCI := Aside0.mk hCi
    have HCJ := Aside0.mk hCj
    have HCP := Aside0.mk (And.intro hci hcj)
    clear ht11 hi11 hf11 hri hCi hCj hxi hyj e2 e5 e0 hwl htc hci hcj
    obtain ⟨p1, hp1⟩ : ∃ p, p = rd ids x := ⟨_, rfl⟩
    obtain ⟨p2, hp2⟩ : ∃ p, p = rd ids y := ⟨_, rfl⟩
    rw [← hp1, ← hp2] at HEQ HX
    clear hp1 hp2
    go_wp2_with fail
    refine start_ (n := 33) (S := fun w' => Kd.C (Kd.int .i64) w' (some ai) ids.length ids ∧ Kd.C (Kd.int .i64) w' Aj ids.length ids ∧ w'.cell? (ai.add x.toNat) = some (.int .i64 p1) ∧ w'.cell? (ai.add y.toNat) = some (.int .i64 p2)) (ds := []) #[false, false, false, false, false, false, false, false, false, false, false, false, false, false, false, false, false, false, false, false, false, false, false, false, false, false, false, false, false, false, false, false, false] (by kernel_rfl) rfl rfl ⟨Kd.C_below HCI.out ((Below.refl _ _).drew), Kd.C_below HCJ.out ((Below.refl _ _).drew), HX.out.1, HX.out.2⟩ (fun hHeld => ?_)
    refine pure_ (i := 0) (N := some 137) (v := ?_) (a' := ?_) #[true, false, false, false, false, false, false, false, false, false, false, false, false, false, false, false, false, false, false, false, false, false, false, false, false, false, false, false, false, false, false, false, false] rfl rfl (by kernel_rfl) (fun _ _ _ h => h) (Or.inl ⟨by rfl, ?_⟩) ?_ ?_
    rotate_left
    · intro w'
      go_simp
      with_reducible rfl
    rotate_left
    · simp only [Act.put, List.setIfInBounds_toArray, List.set_cons_zero, List.set_cons_succ, i64_w, i32_w]
      rfl
    refine pure_ (i := 1) (N := some 138) (v := ?_) (a' := ?_) #[true, true, false, false, false, false, false, false, false, false, false, false, false, false, false, false, false, false, false, false, false, false, false, false, false, false, false, false, false, false, false, false, false] rfl rfl (by kernel_rfl) (fun _ _ _ h => h) (Or.inl ⟨by rfl, ?_⟩) ?_ ?_
    rotate_left
    · intro w'
      go_simp
      with_reducible rfl
    rotate_left
    · simp only [Act.put, List.setIfInBounds_toArray, List.set_cons_zero, List.set_cons_succ, i64_w, i32_w]
      rfl
    refine pure_ (i := 2) (N := some 139) (v := ?_) (a' := ?_) #[true, true, true, false, false, false, false, false, false, false, false, false, false, false, false, false, false, false, false, false, false, false, false, false, false, false, false, false, false, false, false, false, false] rfl rfl (by kernel_rfl) (fun _ _ _ h => h) (Or.inl ⟨by rfl, ?_⟩) ?_ ?_
    rotate_left
    · intro w'
      go_simp
      with_reducible rfl
    rotate_left
    · simp only [Act.put, List.setIfInBounds_toArray, List.set_cons_zero, List.set_cons_succ, i64_w, i32_w]
      rfl
    refine pure_ (i := 3) (N := some 140) (v := ?_) (a' := ?_) #[true, true, true, true, false, false, false, false, false, false, false, false, false, false, false, false, false, false, false, false, false, false, false, false, false, false, false, false, false, false, false, false, false] rfl rfl (by kernel_rfl) (fun _ _ _ h => h) (Or.inl ⟨by rfl, ?_⟩) ?_ ?_
    rotate_left
    · intro w'
      go_simp
      with_reducible rfl
    rotate_left
    · simp only [Act.put, List.setIfInBounds_toArray, List.set_cons_zero, List.set_cons_succ, i64_w, i32_w]
      rfl
    refine pure_ (i := 4) (N := some 141) (v := ?_) (a' := ?_) #[true, true, true, true, true, false, false, false, false, false, false, false, false, false, false, false, false, false, false, false, false, false, false, false, false, false, false, false, false, false, false, false, false] rfl rfl (by kernel_rfl) (fun _ _ _ h => h) (Or.inl ⟨by rfl, ?_⟩) ?_ ?_
    rotate_left
    · intro w'
      go_simp
      with_reducible rfl
    rotate_left
    · simp only [Act.put, List.setIfInBounds_toArray, List.set_cons_zero, List.set_cons_succ, i64_w, i32_w]
      rfl
    refine one_ (i := 5) (N := some 142) #[true, true, true, true, true, true, false, false, false, false, false, false, false, false, false, false, false, false, false, false, false, false, false, false, false, false, false, false, false, false, false, false, false] rfl rfl (by kernel_rfl) (by decide) (fun K hK => ?_)
    refine goes_ Tryd.func20 (by kernel_rfl) rfl #[.slice (some ai) ids.length ci, .slice Aj ids.length cj] (by rfl) rfl rfl (by simp only [List.map_toArray, List.map_cons, List.map_nil]; rfl) ?_
    with_reducible refine (ratchetlaw06_ints.calls (ids.length + 1) (some ai) ci ids Aj cj ids true _ hHeld.1 HCP.out.1 hHeld.2.1 HCP.out.2 (ints_refl ids HIL.out)).mono ?_
    rintro e w3 ⟨rfl, hd3⟩
    refine ⟨_, rfl, ?_⟩
    have bd3 := hd3.below
    refine hK.out _ _ ⟨Kd.C_below hHeld.1 bd3, Kd.C_below hHeld.2.1 bd3, (bd3.cell (World.block_lt_of_cell? _ _ hHeld.2.2.1)).trans hHeld.2.2.1, (bd3.cell (World.block_lt_of_cell? _ _ hHeld.2.2.2)).trans hHeld.2.2.2⟩ (fun hHeld => ?_)
    clear hK K
    refine norm_ (a' := ?_) ?_ ?_
    rotate_left
    · show Act.put _ (some 142) _ = _
      simp only [Act.put, List.setIfInBounds_toArray, List.set_cons_zero, List.set_cons_succ, i64_w, i32_w]
      rfl
    refine pure_ (i := 6) (N := some 143) (v := ?_) (a' := ?_) #[true, true, true, true, true, true, true, false, false, false, false, false, false, false, false, false, false, false, false, false, false, false, false, false, false, false, false, false, false, false, false, false, false] rfl rfl (by kernel_rfl) (fun _ _ _ h => h) (Or.inl ⟨by rfl, ?_⟩) ?_ ?_
    rotate_left
    · intro w'
      go_simp
      with_reducible rfl
    rotate_left
    · simp only [Act.put, List.setIfInBounds_toArray, List.set_cons_zero, List.set_cons_succ, i64_w, i32_w]
      rfl
    refine pure_ (i := 7) (N := some 144) (v := ?_) (a' := ?_) #[true, true, true, true, true, true, true, true, false, false, false, false, false, false, false, false, false, false, false, false, false, false, false, false, false, false, false, false, false, false, false, false, false] rfl rfl (by kernel_rfl) (fun _ _ _ h => h) (Or.inl ⟨by rfl, ?_⟩) ?_ ?_
    rotate_left
    · intro w'
      go_simp
      with_reducible rfl
    rotate_left
    · simp only [Act.put, List.setIfInBounds_toArray, List.set_cons_zero, List.set_cons_succ, i64_w, i32_w]
      rfl
    refine pure_ (i := 8) (N := some 145) (v := ?_) (a' := ?_) #[true, true, true, true, true, true, true, true, true, false, false, false, false, false, false, false, false, false, false, false, false, false, false, false, false, false, false, false, false, false, false, false, false] rfl rfl (by kernel_rfl) (fun _ _ _ h => h) (Or.inl ⟨by rfl, ?_⟩) ?_ ?_
    rotate_left
    · intro w'
      go_simp
      with_reducible rfl
    rotate_left
    · simp only [Act.put, List.setIfInBounds_toArray, List.set_cons_zero, List.set_cons_succ, i64_w, i32_w]
      rfl
    refine pure_ (i := 9) (N := some 146) (v := ?_) (a' := ?_) #[true, true, true, true, true, true, true, true, true, true, false, false, false, false, false, false, false, false, false, false, false, false, false, false, false, false, false, false, false, false, false, false, false] rfl rfl (by kernel_rfl) (fun _ _ _ h => h) (Or.inl ⟨by rfl, ?_⟩) ?_ ?_
    rotate_left
    · intro w'
      go_simp
      with_reducible rfl
    rotate_left
    · simp only [Act.put, List.setIfInBounds_toArray, List.set_cons_zero, List.set_cons_succ, i64_w, i32_w]
      rfl
    refine pure_ (i := 10) (N := some 147) (v := ?_) (a' := ?_) #[true, true, true, true, true, true, true, true, true, true, true, false, false, false, false, false, false, false, false, false, false, false, false, false, false, false, false, false, false, false, false, false, false] rfl rfl (by kernel_rfl) (fun _ _ _ h => h) (Or.inl ⟨by rfl, ?_⟩) ?_ ?_
    rotate_left
    · intro w'
      go_simp
      with_reducible rfl
    rotate_left
    · simp only [Act.put, List.setIfInBounds_toArray, List.set_cons_zero, List.set_cons_succ, i64_w, i32_w]
      rfl
    refine pure_ (i := 11) (N := some 148) (v := ?_) (a' := ?_) #[true, true, true, true, true, true, true, true, true, true, true, true, false, false, false, false, false, false, false, false, false, false, false, false, false, false, false, false, false, false, false, false, false] rfl rfl (by kernel_rfl) (fun _ _ _ h => h) (Or.inl ⟨by rfl, ?_⟩) ?_ ?_
    rotate_left
    · intro w'
      go_simp
      with_reducible rfl
    rotate_left
    · simp only [Act.put, List.setIfInBounds_toArray, List.set_cons_zero, List.set_cons_succ, i64_w, i32_w]
      rfl
    refine pure_ (i := 12) (N := some 149) (v := ?_) (a' := ?_) #[true, true, true, true, true, true, true, true, true, true, true, true, true, false, false, false, false, false, false, false, false, false, false, false, false, false, false, false, false, false, false, false, false] rfl rfl (by kernel_rfl) (fun _ _ _ h => h) (Or.inl ⟨by rfl, ?_⟩) ?_ ?_
    rotate_left
    · intro w'
      go_simp
      with_reducible rfl
    rotate_left
    · simp only [Act.put, List.setIfInBounds_toArray, List.set_cons_zero, List.set_cons_succ, i64_w, i32_w]
      rfl
    refine pure_ (i := 13) (N := some 150) (v := ?_) (a' := ?_) #[true, true, true, true, true, true, true, true, true, true, true, true, true, true, false, false, false, false, false, false, false, false, false, false, false, false, false, false, false, false, false, false, false] rfl rfl (by kernel_rfl) (fun _ _ _ h => h) (Or.inl ⟨by rfl, ?_⟩) ?_ ?_
    rotate_left
    · intro w'
      go_simp
      with_reducible rfl
    rotate_left
    · simp only [Act.put, List.setIfInBounds_toArray, List.set_cons_zero, List.set_cons_succ, i64_w, i32_w]
      rfl
    refine pure_ (i := 14) (N := some 151) (v := ?_) (a' := ?_) #[true, true, true, true, true, true, true, true, true, true, true, true, true, true, true, false, false, false, false, false, false, false, false, false, false, false, false, false, false, false, false, false, false] rfl rfl (by kernel_rfl) (fun _ _ _ h => h) (Or.inl ⟨by rfl, ?_⟩) ?_ ?_
    rotate_left
    · intro w'
      go_simp
      with_reducible rfl
    rotate_left
    · simp only [Act.put, List.setIfInBounds_toArray, List.set_cons_zero, List.set_cons_succ, i64_w, i32_w]
      rfl
    refine pure_ (i := 15) (N := some 152) (v := ?_) (a' := ?_) #[true, true, true, true, true, true, true, true, true, true, true, true, true, true, true, true, false, false, false, false, false, false, false, false, false, false, false, false, false, false, false, false, false] rfl rfl (by kernel_rfl) (fun _ _ _ h => h) (Or.inl ⟨by rfl, ?_⟩) ?_ ?_
    rotate_left
    · intro w'
      go_simp
      with_reducible rfl
    rotate_left
    · simp only [Act.put, List.setIfInBounds_toArray, List.set_cons_zero, List.set_cons_succ, i64_w, i32_w]
      rfl
    refine pure_ (i := 16) (N := some 153) (v := ?_) (a' := ?_) #[true, true, true, true, true, true, true, true, true, true, true, true, true, true, true, true, true, false, false, false, false, false, false, false, false, false, false, false, false, false, false, false, false] rfl rfl (by kernel_rfl) (fun _ _ _ h => h) (Or.inl ⟨by rfl, ?_⟩) ?_ ?_
    rotate_left
    · intro w'
      go_simp
      with_reducible rfl
    rotate_left
    · simp only [Act.put, List.setIfInBounds_toArray, List.set_cons_zero, List.set_cons_succ, i64_w, i32_w]
      rfl
    refine pure_ (i := 17) (N := some 154) (v := ?_) (a' := ?_) #[true, true, true, true, true, true, true, true, true, true, true, true, true, true, true, true, true, true, false, false, false, false, false, false, false, false, false, false, false, false, false, false, false] rfl rfl (by kernel_rfl) (fun _ _ _ h => h) (Or.inl ⟨by rfl, ?_⟩) ?_ ?_
    rotate_left
    · intro w'
      go_simp
      with_reducible rfl
    rotate_left
    · simp only [Act.put, List.setIfInBounds_toArray, List.set_cons_zero, List.set_cons_succ, i64_w, i32_w]
      rfl
    refine pure_ (i := 18) (N := some 155) (v := ?_) (a' := ?_) #[true, true, true, true, true, true, true, true, true, true, true, true, true, true, true, true, true, true, true, false, false, false, false, false, false, false, false, false, false, false, false, false, false] rfl rfl (by kernel_rfl) (fun _ _ _ h => h) (Or.inl ⟨by rfl, ?_⟩) ?_ ?_
    rotate_left
    · intro w'
      go_simp
      with_reducible rfl
    rotate_left
    · simp only [Act.put, List.setIfInBounds_toArray, List.set_cons_zero, List.set_cons_succ, i64_w, i32_w]
      rfl
    refine pure_ (i := 19) (N := some 156) (v := ?_) (a' := ?_) #[true, true, true, true, true, true, true, true, true, true, true, true, true, true, true, true, true, true, true, true, false, false, false, false, false, false, false, false, false, false, false, false, false] rfl rfl (by kernel_rfl) (fun _ _ _ h => h) (Or.inl ⟨by rfl, ?_⟩) ?_ ?_
    rotate_left
    · intro w'
      go_simp
      with_reducible rfl
    rotate_left
    · simp only [Act.put, List.setIfInBounds_toArray, List.set_cons_zero, List.set_cons_succ, i64_w, i32_w]
      rfl
    refine pure_ (i := 20) (N := some 157) (v := ?_) (a' := ?_) #[true, true, true, true, true, true, true, true, true, true, true, true, true, true, true, true, true, true, true, true, true, false, false, false, false, false, false, false, false, false, false, false, false] rfl rfl (by kernel_rfl) (fun _ _ _ h => h) (Or.inl ⟨by rfl, ?_⟩) ?_ ?_
    rotate_left
    · intro w'
      go_simp
      with_reducible rfl
    rotate_left
    · simp only [Act.put, List.setIfInBounds_toArray, List.set_cons_zero, List.set_cons_succ, i64_w, i32_w]
      rfl
    refine pure_ (i := 21) (N := some 158) (v := ?_) (a' := ?_) #[true, true, true, true, true, true, true, true, true, true, true, true, true, true, true, true, true, true, true, true, true, true, false, false, false, false, false, false, false, false, false, false, false] rfl rfl (by kernel_rfl) (fun _ _ _ h => h) (Or.inl ⟨by rfl, ?_⟩) ?_ ?_
    rotate_left
    · intro w'
      go_simp
      with_reducible rfl
    rotate_left
    · simp only [Act.put, List.setIfInBounds_toArray, List.set_cons_zero, List.set_cons_succ, i64_w, i32_w]
      rfl
    refine pure_ (i := 22) (N := some 159) (v := ?_) (a' := ?_) #[true, true, true, true, true, true, true, true, true, true, true, true, true, true, true, true, true, true, true, true, true, true, true, false, false, false, false, false, false, false, false, false, false] rfl rfl (by kernel_rfl) (fun _ _ _ h => h) (Or.inl ⟨by rfl, ?_⟩) ?_ ?_
    rotate_left
    · intro w'
      go_simp
      with_reducible rfl
    rotate_left
    · simp only [Act.put, List.setIfInBounds_toArray, List.set_cons_zero, List.set_cons_succ, i64_w, i32_w]
      rfl
    refine pure_ (i := 24) (N := some 161) (v := ?_) (a' := ?_) #[true, true, true, true, true, true, true, true, true, true, true, true, true, true, true, true, true, true, true, true, true, true, true, false, true, false, false, false, false, false, false, false, false] rfl rfl (by kernel_rfl) (fun _ _ _ h => h) (Or.inl ⟨by rfl, ?_⟩) ?_ ?_
    rotate_left
    · intro w'
      go_simp
      with_reducible rfl
    rotate_left
    · simp only [Act.put, List.setIfInBounds_toArray, List.set_cons_zero, List.set_cons_succ, i64_w, i32_w]
      rfl
    refine pure_ (i := 25) (N := some 162) (v := ?_) (a' := ?_) #[true, true, true, true, true, true, true, true, true, true, true, true, true, true, true, true, true, true, true, true, true, true, true, false, true, true, false, false, false, false, false, false, false] rfl rfl (by kernel_rfl) (fun _ _ _ h => h) (Or.inl ⟨by rfl, ?_⟩) ?_ ?_
    rotate_left
    · intro w'
      go_simp
      with_reducible rfl
    rotate_left
    · simp only [Act.put, List.setIfInBounds_toArray, List.set_cons_zero, List.set_cons_succ, i64_w, i32_w]
      rfl
    refine pure_ (i := 26) (N := some 163) (v := ?_) (a' := ?_) #[true, true, true, true, true, true, true, true, true, true, true, true, true, true, true, true, true, true, true, true, true, true, true, false, true, true, true, false, false, false, false, false, false] rfl rfl (by kernel_rfl) (fun _ _ _ h => h) (Or.inl ⟨by rfl, ?_⟩) ?_ ?_
    rotate_left
    · intro w'
      go_simp
      with_reducible rfl
    rotate_left
    · simp only [Act.put, List.setIfInBounds_toArray, List.set_cons_zero, List.set_cons_succ, i64_w, i32_w]
      rfl
    refine pure_ (i := 29) (N := some 166) (v := ?_) (a' := ?_) #[true, true, true, true, true, true, true, true, true, true, true, true, true, true, true, true, true, true, true, true, true, true, true, false, true, true, true, false, false, true, false, false, false] rfl rfl (by kernel_rfl) (fun _ _ _ h => h) (Or.inl ⟨by rfl, ?_⟩) ?_ ?_
    rotate_left
    · intro w'
      go_simp
      with_reducible rfl
    rotate_left
    · simp only [Act.put, List.setIfInBounds_toArray, List.set_cons_zero, List.set_cons_succ, i64_w, i32_w]
      rfl
    refine take_ (i := 23) (N := some 160) (v := ?_) (a' := ?_) #[true, true, true, true, true, true, true, true, true, true, true, true, true, true, true, true, true, true, true, true, true, true, true, true, true, true, true, false, false, true, false, false, false] rfl rfl (by kernel_rfl) (fun _ _ _ h => h) (Or.inl ⟨by rfl, ?_⟩) hHeld ?_ ?_
    rotate_left
    · rintro w' ⟨s0, s1, s2, s3⟩
      go_simp
      with_reducible rfl
    rotate_left
    · simp only [Act.put, List.setIfInBounds_toArray, List.set_cons_zero, List.set_cons_succ, i64_w, i32_w]
      rfl
    refine take_ (i := 27) (N := some 164) (v := ?_) (a' := ?_) #[true, true, true, true, true, true, true, true, true, true, true, true, true, true, true, true, true, true, true, true, true, true, true, true, true, true, true, true, false, true, false, false, false] rfl rfl (by kernel_rfl) (fun _ _ _ h => h) (Or.inl ⟨by rfl, ?_⟩) hHeld ?_ ?_
    rotate_left
    · rintro w' ⟨s0, s1, s2, s3⟩
      go_simp
      with_reducible rfl
    rotate_left
    · simp only [Act.put, List.setIfInBounds_toArray, List.set_cons_zero, List.set_cons_succ, i64_w, i32_w]
      rfl
    refine pure_ (i := 28) (N := some 165) (v := ?_) (a' := ?_) #[true, true, true, true, true, true, true, true, true, true, true, true, true, true, true, true, true, true, true, true, true, true, true, true, true, true, true, true, true, true, false, false, false] rfl rfl (by kernel_rfl) (fun _ _ _ h => h) (Or.inl ⟨by rfl, ?_⟩) ?_ ?_
    rotate_left
    · intro w'
      go_simp
      with_reducible rfl
    rotate_left
    · simp only [Act.put, List.setIfInBounds_toArray, List.set_cons_zero, List.set_cons_succ, i64_w, i32_w]
      rfl
    refine pure_ (i := 30) (N := some 167) (v := ?_) (a' := ?_) #[true, true, true, true, true, true, true, true, true, true, true, true, true, true, true, true, true, true, true, true, true, true, true, true, true, true, true, true, true, true, true, false, false] rfl rfl (by kernel_rfl) (fun _ _ _ h => h) (Or.inl ⟨by rfl, ?_⟩) ?_ ?_
    rotate_left
    · intro w'
      go_simp
      with_reducible rfl
    rotate_left
    · simp only [Act.put, List.setIfInBounds_toArray, List.set_cons_zero, List.set_cons_succ, i64_w, i32_w]
      rfl
    refine pure_ (i := 31) (N := some 168) (v := ?_) (a' := ?_) #[true, true, true, true, true, true, true, true, true, true, true, true, true, true, true, true, true, true, true, true, true, true, true, true, true, true, true, true, true, true, true, true, false] rfl rfl (by kernel_rfl) (fun _ _ _ h => h) (Or.inl ⟨by rfl, ?_⟩) ?_ ?_
    rotate_left
    · intro w'
      go_simp
      with_reducible rfl
    rotate_left
    · simp only [Act.put, List.setIfInBounds_toArray, List.set_cons_zero, List.set_cons_succ, i64_w, i32_w]
      rfl
    refine pure_ (i := 32) (N := some 6) (v := ?_) (a' := ?_) #[true, true, true, true, true, true, true, true, true, true, true, true, true, true, true, true, true, true, true, true, true, true, true, true, true, true, true, true, true, true, true, true, true] rfl rfl (by kernel_rfl) (fun _ _ _ h => h) (Or.inl ⟨by rfl, ?_⟩) ?_ ?_
    rotate_left
    · intro w'
      go_simp
      with_reducible rfl
    rotate_left
    · simp only [Act.put, List.setIfInBounds_toArray, List.set_cons_zero, List.set_cons_succ, i64_w, i32_w]
      rfl
    refine done_ (by kernel_rfl) ?_
    
    have hbw : Below w.heap.size w w3 := (B11.out.drew).trans (bd3.mono B11.out.size)
    go_wp2_with fail
    go_ret
    exact ⟨by rw [HEQ.out] <;> rfl, hbw⟩
end Go.Proofs.YtfgglniigeagdaaDoor.Cn
