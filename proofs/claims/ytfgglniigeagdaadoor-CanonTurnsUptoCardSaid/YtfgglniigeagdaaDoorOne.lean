/- canon.One, walked. (Printed by wip/gen_one.py.) -/
import Derived.Test.YtfgglniigeagdaaDoorOn
namespace Go.Proofs.YtfgglniigeagdaaDoor.Cn
set_option linter.unusedSimpArgs false
set_option linter.unusedVariables false
open Go.RowKit Go.Maps Go.Proofs.YtfgglniigeagdaaDoorW.PrintWords Go.Proofs.YtfgglniigeagdaaDoorW.PrintLast Go.Proofs.YtfgglniigeagdaaDoorW.PrintMore Go.Proofs.YtfgglniigeagdaaDoor.QD
theorem fr_row {B g b : Nat} {w W : World} {v : Value} {l : List Int} {B0 : Nat} {ok : Nat → Prop} (hf : FrA B g b w W) (hr : Kd.R (Kd.int .i64) 3 w B0 ok v l) (hg : ∃ cs t, w.heap[g]? = some (.cells cs t (0, 0)) ∧ t ≠ 3) (hb : ∀ cs t, w.heap[b]? ≠ some (.cells cs t (0, 0))) : Kd.R (Kd.int .i64) 3 W B0 (fun _ => True) v l := by
  refine Kd.R_mono (Kd.R_step (Kd.R_bound hr) (w1 := W) (fun k hk hlt => ?_)) (fun _ _ => trivial)
  obtain ⟨_, _, _, q, hq, cells, hc⟩ := hk
  have hq3 : q = 3 := List.mem_singleton.1 hq
  subst hq3
  rw [hc]
  refine hf.oth k _ hc ?_ ?_ ?_
  · rintro rfl
    obtain ⟨cs, t, h1, h2⟩ := hg
    rw [h1] at hc
    injection hc with hc
    injection hc with _ hc _
    exact h2 hc
  · rintro rfl
    exact hb _ _ hc
  · intro c_ fz_ e
    injection e with _ e _
    exact absurd e (by decide)
set_option maxRecDepth 100000 in
set_option maxHeartbeats 8000000 in
theorem one_calls (A1 : Option Addr) (c1 : Nat) (a : List S62) (A2 : Option Addr) (c2 : Nat) (b : List S62) (x y : Int) (w : World) (hCa : Kd.C k62 w A1 a.length a) (hca : a.length ≤ c1) (hCb : Kd.C k62 w A2 b.length b) (hcb : b.length ≤ c2)
    (hsa : ∀ r ∈ a, ∀ s ∈ r.f0, SOk (fun _ => True) s) (hsb : ∀ r ∈ b, ∀ s ∈ r.f0, SOk (fun _ => True) s) (hia : Clo a → ∀ r ∈ a, ∀ s ∈ r.f0, RIn s) (hib : Clo b → ∀ r ∈ b, ∀ s ∈ r.f0, RIn s) (hwa : wL a ≤ 1048576) (hwb : wL b ≤ 1048576) (hla : a.length ≤ 1048576) (hlb : b.length ≤ 1048576)
    (htab : Lib.TabBelow Tryd.prog w.heap.size w "internal/strconv.uint64pow10" .u64 Lib.pow10Tab) :
    Calls Tryd.prog 15 #[.slice A1 a.length c1, .slice A2 b.length c2, .int .i64 x, .int .i64 y] w fun e w' => e = .returned (.tuple #[.bool (oneM a b x y).1, .int .i64 (oneM a b x y).2]) ∧ Below w.heap.size w w' := by
  have hta : tcount a ≤ 1048576 := Nat.le_trans (tcount_le_wL a) hwa
  have htb : tcount b ≤ 1048576 := Nat.le_trans (tcount_le_wL b) hwb
  have N1 : Aside0 (tcount a ≤ 1099511627776) := ⟨by omega⟩
  have N2 : Aside0 (tcount b ≤ 1099511627776) := ⟨by omega⟩
  have N3 : Aside0 (a.length ≤ 1099511627776) := ⟨by omega⟩
  have N4 : Aside0 (b.length ≤ 1099511627776) := ⟨by omega⟩
  have HCA := Aside0.mk hCa
  have HCB := Aside0.mk hCb
  have HSA := Aside0.mk hsa
  have HSB := Aside0.mk hsb
  have HIA := Aside0.mk hia
  have HIB := Aside0.mk hib
  have HWA := Aside0.mk hwa
  have HWB := Aside0.mk hwb
  have HTAB := Aside0.mk htab
  clear hCa hCb hsa hsb hia hib hwa hwb htab
  go_enter Tryd.func15, Tryd.ntmps15
  go_wp2_with fail
  refine (closed_calls A1 c1 a w HCA.out hca (by omega) (by omega) HSA.out).mono ?_
  rintro e w1 ⟨⟨n, er, rfl, hcl⟩, hb1⟩
  have B1 := Aside0.mk hb1
  clear hb1
  rcases hcl with ⟨rfl, rfl, hcla⟩ | ⟨rfl, hncla⟩
  rotate_left
  · go_wp2_with fail
    go_ret2
    have e0 : oneM a b x y = (false, 50) := by unfold oneM; rw [if_neg (fun h => hncla h.1)]
    rw [e0]
    exact ⟨rfl, B1.out⟩
  have HCLA := Aside0.mk hcla
  clear hcla
  go_wp2_with fail
  refine (closed_calls A2 c2 b w1 (Kd.C_below HCB.out B1.out) hcb (by omega) (by omega) HSB.out).mono ?_
  rintro e w2 ⟨⟨n, er, rfl, hcl⟩, hb2⟩
  have B2 := Aside0.mk (B1.out.trans (hb2.mono B1.out.size))
  clear hb2
  rcases hcl with ⟨rfl, rfl, hclb⟩ | ⟨rfl, hnclb⟩
  rotate_left
  · go_wp2_with fail
    go_ret2
    have e0 : oneM a b x y = (false, 50) := by unfold oneM; rw [if_neg (fun h => hnclb h.2)]
    rw [e0]
    exact ⟨rfl, B2.out⟩
  have HCLB := Aside0.mk hclb
  clear hclb
  have HCA2 := Aside0.mk (Kd.C_below HCA.out B2.out)
  have HCB2 := Aside0.mk (Kd.C_below HCB.out B2.out)
  have out1 : ¬ (0 ≤ x ∧ x < tcount a ∧ 0 ≤ y ∧ y < tcount b) → oneM a b x y = (false, 1) := fun h => by unfold oneM; rw [if_pos ⟨HCLA.out, HCLB.out⟩, if_neg h]
  have OUT1 := Aside0.mk out1
  clear out1
  obtain ⟨ta, eta⟩ : ∃ ta : Nat, ta = tcount a := ⟨_, rfl⟩
  obtain ⟨tb, etb⟩ : ∃ tb : Nat, tb = tcount b := ⟨_, rfl⟩
  have KA := count_calls A1 c1 a w2 HCA2.out hca N1.out N3.out
  have KB : ∀ w3, Below w2.heap.size w2 w3 → _ := fun w3 h3 => count_calls A2 c2 b w3 (Kd.C_below HCB2.out h3) hcb N2.out N4.out
  rw [← eta] at KA hta OUT1
  rw [← etb] at htb OUT1
  simp only [← etb] at KB
  have ETA := Aside0.mk eta
  have ETB := Aside0.mk etb
  have KA' := Aside0.mk KA
  have KB' := Aside0.mk KB
  clear KA KB eta etb
  by_cases hx0 : x < 0
  · go_wp2_with fail
    go_ret2
    rw [OUT1.out (by omega)]
    exact ⟨rfl, B2.out⟩
  by_cases hx1 : (ta : Int) ≤ x
  · go_wp2_with (go_at_call 39; first | ((with_reducible refine KA'.out.mono ?_); rintro e w3 ⟨rfl, hb3⟩; have B3 := Aside0.mk (B2.out.trans (hb3.mono B2.out.size)); have HB3 := Aside0.mk hb3; clear hb3) | ((with_reducible refine (KB'.out w3 HB3.out).mono ?_); rintro e w4 ⟨rfl, hb4⟩; have B4 := Aside0.mk (B3.out.trans (hb4.mono B3.out.size)); clear hb4))
    go_ret2
    rw [OUT1.out (by omega)]
    exact ⟨rfl, B3.out⟩
  by_cases hy0 : y < 0
  · go_wp2_with (go_at_call 39; first | ((with_reducible refine KA'.out.mono ?_); rintro e w3 ⟨rfl, hb3⟩; have B3 := Aside0.mk (B2.out.trans (hb3.mono B2.out.size)); have HB3 := Aside0.mk hb3; clear hb3) | ((with_reducible refine (KB'.out w3 HB3.out).mono ?_); rintro e w4 ⟨rfl, hb4⟩; have B4 := Aside0.mk (B3.out.trans (hb4.mono B3.out.size)); clear hb4))
    go_ret2
    rw [OUT1.out (by omega)]
    exact ⟨rfl, B3.out⟩
  by_cases hy1 : (tb : Int) ≤ y
  · go_wp2_with (go_at_call 39; first | ((with_reducible refine KA'.out.mono ?_); rintro e w3 ⟨rfl, hb3⟩; have B3 := Aside0.mk (B2.out.trans (hb3.mono B2.out.size)); have HB3 := Aside0.mk hb3; clear hb3) | ((with_reducible refine (KB'.out w3 HB3.out).mono ?_); rintro e w4 ⟨rfl, hb4⟩; have B4 := Aside0.mk (B3.out.trans (hb4.mono B3.out.size)); clear hb4))
    go_ret2
    rw [OUT1.out (by omega)]
    exact ⟨rfl, B4.out⟩
  go_wp2_with (go_at_call 39; first | ((with_reducible refine KA'.out.mono ?_); rintro e w3 ⟨rfl, hb3⟩; have B3 := Aside0.mk (B2.out.trans (hb3.mono B2.out.size)); have HB3 := Aside0.mk hb3; clear hb3) | ((with_reducible refine (KB'.out w3 HB3.out).mono ?_); rintro e w4 ⟨rfl, hb4⟩; have B4 := Aside0.mk (B3.out.trans (hb4.mono B3.out.size)); clear hb4))
  refine (new_calls w4 (tab_mono (HTAB.out.on B4.out) B4.out.size)).mono ?_
  rintro e w5 ⟨rfl, ht5, hb5⟩
  have T5 := Aside0.mk ht5
  have B5 := Aside0.mk (B4.out.trans (hb5.mono B4.out.size))
  have B45 := Aside0.mk hb5
  clear ht5 hb5
  obtain ⟨B0, hB0⟩ : ∃ B0, B0 = w4.heap.size := ⟨_, rfl⟩
  rw [← hB0] at T5 B45 ⊢
  have HB0 := Aside0.mk hB0
  have HWB0 : Aside0 (w.heap.size ≤ B0) := ⟨by rw [hB0]; exact B4.out.size⟩
  have HZ5 : Aside0 (B0 ≤ w5.heap.size) := ⟨by rw [hB0]; exact B45.out.size⟩
  clear hB0
  go_wp2_with fail
  obtain ⟨g1, i1, ha1, hm1, hl1, hg1⟩ := addTo_room 9223372036854775807 a [] [] (by have h_ := N1.out; simp [manyOf]; omega)
  refine (add_calls ⟨B0, B0 + 1, 47, [.bool true], [], B0, a, 9223372036854775807, w5⟩ _ _ A1 c1 T5.out (Or.inl rfl) HZ5.out (LR.of_C HCA.out (fun W hW => B5.out.trans (hW.bel.mono HWB0.out))) hca (HIA.out HCLA.out) HWA.out hla (by show manyOf [] ≤ 1099511627776; simp [manyOf]) (by show ([] : List (List S53)).length ≤ 1099511627776; simp) ⟨by show (0 : Int) ≤ 9223372036854775807; decide, by show (9223372036854775807 : Int) ≤ 9223372036854775807; decide⟩).mono ?_
  intro e w6 hout
  unfold AddOut at hout
  dsimp only at hout
  rw [ha1] at hout
  obtain ⟨v6, D6, vi, rfl, hai⟩ := hout
  have A6 := Aside0.mk hai
  have F6 := Aside0.mk hai.fr
  obtain ⟨Ai, ci, hvi⟩ := Kd.R_slice hai.iv
  subst hvi
  have HA1 := Aside0.mk ha1
  have HL1 := Aside0.mk hl1
  clear hai ha1 hl1
  go_wp2_with fail
  obtain ⟨g2, i2, ha2, hm2, hl2, hg2⟩ := addTo_room 9223372036854775807 b g1 [] (by have h_ := N1.out; have h2_ := N2.out; have h3_ : manyOf [] = 0 := rfl; rw [h3_] at hm1; omega)
  have hB6 : B0 ≤ w6.heap.size := Nat.le_trans HZ5.out F6.out.bel.size
  refine (add_calls ⟨B0, B0 + 1, 47, [.bool true], g1, B0, b, 9223372036854775807, w6⟩ _ _ A2 c2 (A6.out.tb.weak (fun _ _ => trivial)) (Or.inl rfl) hB6 (LR.of_C HCB.out (fun W hW => (B5.out.trans (F6.out.bel.mono HWB0.out)).trans (hW.bel.mono HWB0.out))) hcb (HIB.out HCLB.out) HWB.out hlb (by have h_ := N1.out; have h0_ : tcount a ≤ 1048576 := Nat.le_trans (tcount_le_wL a) HWA.out; have h3_ : manyOf [] = 0 := rfl; rw [h3_] at hm1; dsimp only; omega) (by simp at hg1; dsimp only; omega) ⟨by show (0 : Int) ≤ 9223372036854775807; decide, by show (9223372036854775807 : Int) ≤ 9223372036854775807; decide⟩).mono ?_
  intro e w7 hout
  unfold AddOut at hout
  dsimp only at hout
  rw [ha2] at hout
  obtain ⟨v7, D7, vj, rfl, haj⟩ := hout
  have A7 := Aside0.mk haj
  obtain ⟨Aj, cj, hvj⟩ := Kd.R_slice haj.iv
  subst hvj
  have hri : Kd.R (Kd.int .i64) 3 w7 w5.heap.size (fun _ => True) (.slice Ai i1.length ci) i1 := fr_row haj.fr A6.out.iv ⟨_, _, A6.out.tb.box, by show (47 : Nat) ≠ 3; decide⟩ (fun cs t h => by obtain ⟨es, clock, hb, _⟩ := A6.out.tb.map; rw [hb] at h; cases h)
  obtain ⟨_, _, e1, hci, hCi⟩ := Kd.R_reads hri
  injection e1 with e1 e2 e3
  subst e1 e3
  obtain ⟨_, _, e4, hcj, hCj⟩ := Kd.R_reads haj.iv
  injection e4 with e4 e5 e6
  subst e4 e6
  have e0 : ([] : List Int).length = 0 := rfl
  have hli : (x : Int) < i1.length := by have h1_ := HL1.out; have h2_ := ETA.out; rw [e0] at h1_; omega
  have hlj : (y : Int) < i2.length := by have h2_ := ETB.out; rw [e0] at hl2; omega
  obtain ⟨ai, ei, hxi⟩ := Kd.at_int hCi x (by omega) hli
  obtain ⟨aj, ej, hyj⟩ := Kd.at_int hCj y (by omega) hlj
  subst ei ej
  have hone : oneM a b x y = (rd i1 x == rd i2 y, 0) := by
    unfold oneM oneIds
    rw [if_pos ⟨HCLA.out, HCLB.out⟩, if_pos (by have h1_ := ETA.out; have h2_ := ETB.out; omega), HA1.out]
    dsimp only
    rw [ha2]
  have B7 : Aside0 (Below w.heap.size w w7) := ⟨(B5.out.trans (F6.out.bel.mono HWB0.out)).trans (haj.fr.bel.mono HWB0.out)⟩
  have HX7 := Aside0.mk (And.intro hxi hyj)
  have HONE := Aside0.mk hone
  have hx' : 0 ≤ x := by omega
  have hy' : 0 ≤ y := by omega
  obtain ⟨li, hlie⟩ : ∃ li : Nat, li = i1.length := ⟨_, rfl⟩
  obtain ⟨lj, hlje⟩ : ∃ lj : Nat, lj = i2.length := ⟨_, rfl⟩
  rw [← hlie] at hli hci ⊢
  rw [← hlje] at hlj hcj ⊢
  obtain ⟨p1, hp1⟩ : ∃ p, p = rd i1 x := ⟨_, rfl⟩
  obtain ⟨p2, hp2⟩ : ∃ p, p = rd i2 y := ⟨_, rfl⟩
  rw [← hp1, ← hp2] at HONE HX7
  clear haj hri hCi hCj hxi hyj hone hm1 hg1 hm2 hl2 hg2 ha2 e0 hB6 hlie hlje hp1 hp2 e2 e5 hx0 hx1 hy0 hy1
  go_wp2_with fail
  refine start_ (n := 11) (S := fun w' => w'.cell? (ai.add x.toNat) = some (.int .i64 p1) ∧ w'.cell? (aj.add y.toNat) = some (.int .i64 p2)) (ds := []) #[false, false, false, false, false, false, false, false, false, false, false] (by kernel_rfl) rfl rfl ⟨HX7.out.1, HX7.out.2⟩ (fun hHeld => ?_)
  refine pure_ (i := 0) (N := some 73) (v := ?_) (a' := ?_) #[true, false, false, false, false, false, false, false, false, false, false] rfl rfl (by kernel_rfl) (fun _ _ _ h => h) (Or.inl ⟨by rfl, ?_⟩) ?_ ?_
  rotate_left
  · intro w'
    go_simp
    with_reducible rfl
  rotate_left
  · simp only [Act.put, List.setIfInBounds_toArray, List.set_cons_zero, List.set_cons_succ, i64_w, i32_w]
    rfl
  refine pure_ (i := 1) (N := some 74) (v := ?_) (a' := ?_) #[true, true, false, false, false, false, false, false, false, false, false] rfl rfl (by kernel_rfl) (fun _ _ _ h => h) (Or.inl ⟨by rfl, ?_⟩) ?_ ?_
  rotate_left
  · intro w'
    go_simp
    with_reducible rfl
  rotate_left
  · simp only [Act.put, List.setIfInBounds_toArray, List.set_cons_zero, List.set_cons_succ, i64_w, i32_w]
    rfl
  refine pure_ (i := 2) (N := some 75) (v := ?_) (a' := ?_) #[true, true, true, false, false, false, false, false, false, false, false] rfl rfl (by kernel_rfl) (fun _ _ _ h => h) (Or.inl ⟨by rfl, ?_⟩) ?_ ?_
  rotate_left
  · intro w'
    go_simp
    with_reducible rfl
  rotate_left
  · simp only [Act.put, List.setIfInBounds_toArray, List.set_cons_zero, List.set_cons_succ, i64_w, i32_w]
    rfl
  refine pure_ (i := 4) (N := some 77) (v := ?_) (a' := ?_) #[true, true, true, false, true, false, false, false, false, false, false] rfl rfl (by kernel_rfl) (fun _ _ _ h => h) (Or.inl ⟨by rfl, ?_⟩) ?_ ?_
  rotate_left
  · intro w'
    go_simp
    with_reducible rfl
  rotate_left
  · simp only [Act.put, List.setIfInBounds_toArray, List.set_cons_zero, List.set_cons_succ, i64_w, i32_w]
    rfl
  refine pure_ (i := 5) (N := some 78) (v := ?_) (a' := ?_) #[true, true, true, false, true, true, false, false, false, false, false] rfl rfl (by kernel_rfl) (fun _ _ _ h => h) (Or.inl ⟨by rfl, ?_⟩) ?_ ?_
  rotate_left
  · intro w'
    go_simp
    with_reducible rfl
  rotate_left
  · simp only [Act.put, List.setIfInBounds_toArray, List.set_cons_zero, List.set_cons_succ, i64_w, i32_w]
    rfl
  refine pure_ (i := 6) (N := some 79) (v := ?_) (a' := ?_) #[true, true, true, false, true, true, true, false, false, false, false] rfl rfl (by kernel_rfl) (fun _ _ _ h => h) (Or.inl ⟨by rfl, ?_⟩) ?_ ?_
  rotate_left
  · intro w'
    go_simp
    with_reducible rfl
  rotate_left
  · simp only [Act.put, List.setIfInBounds_toArray, List.set_cons_zero, List.set_cons_succ, i64_w, i32_w]
    rfl
  refine take_ (i := 3) (N := some 76) (v := ?_) (a' := ?_) #[true, true, true, true, true, true, true, false, false, false, false] rfl rfl (by kernel_rfl) (fun _ _ _ h => h) (Or.inl ⟨by rfl, ?_⟩) hHeld ?_ ?_
  rotate_left
  · rintro w' ⟨s0, s1⟩
    go_simp
    with_reducible rfl
  rotate_left
  · simp only [Act.put, List.setIfInBounds_toArray, List.set_cons_zero, List.set_cons_succ, i64_w, i32_w]
    rfl
  refine take_ (i := 7) (N := some 80) (v := ?_) (a' := ?_) #[true, true, true, true, true, true, true, true, false, false, false] rfl rfl (by kernel_rfl) (fun _ _ _ h => h) (Or.inl ⟨by rfl, ?_⟩) hHeld ?_ ?_
  rotate_left
  · rintro w' ⟨s0, s1⟩
    go_simp
    with_reducible rfl
  rotate_left
  · simp only [Act.put, List.setIfInBounds_toArray, List.set_cons_zero, List.set_cons_succ, i64_w, i32_w]
    rfl
  refine pure_ (i := 8) (N := some 81) (v := ?_) (a' := ?_) #[true, true, true, true, true, true, true, true, true, false, false] rfl rfl (by kernel_rfl) (fun _ _ _ h => h) (Or.inl ⟨by rfl, ?_⟩) ?_ ?_
  rotate_left
  · intro w'
    go_simp
    with_reducible rfl
  rotate_left
  · simp only [Act.put, List.setIfInBounds_toArray, List.set_cons_zero, List.set_cons_succ, i64_w, i32_w]
    rfl
  refine pure_ (i := 9) (N := some 8) (v := ?_) (a' := ?_) #[true, true, true, true, true, true, true, true, true, true, false] rfl rfl (by kernel_rfl) (fun _ _ _ h => h) (Or.inl ⟨by rfl, ?_⟩) ?_ ?_
  rotate_left
  · intro w'
    go_simp
    with_reducible rfl
  rotate_left
  · simp only [Act.put, List.setIfInBounds_toArray, List.set_cons_zero, List.set_cons_succ, i64_w, i32_w]
    rfl
  refine pure_ (i := 10) (N := some 9) (v := ?_) (a' := ?_) #[true, true, true, true, true, true, true, true, true, true, true] rfl rfl (by kernel_rfl) (fun _ _ _ h => h) (Or.inl ⟨by rfl, ?_⟩) ?_ ?_
  rotate_left
  · intro w'
    go_simp
    with_reducible rfl
  rotate_left
  · simp only [Act.put, List.setIfInBounds_toArray, List.set_cons_zero, List.set_cons_succ, i64_w, i32_w]
    rfl
  refine done_ (by kernel_rfl) ?_
  
  go_wp2_with fail
  go_ret2
  rw [HONE.out]
  exact ⟨rfl, B7.out.drew⟩
end Go.Proofs.YtfgglniigeagdaaDoor.Cn
