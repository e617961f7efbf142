/- Parts of the proof of vctlOpens_holds (13 of 22): what it says and shows stands at its declarations. -/
import Derived.Test.YtohlmkcgempdlaaGreatDoorZO12
namespace Go.Proofs.YtohlmkcgempdlaaGreatDoor.Cn
set_option linter.unusedSimpArgs false
set_option maxRecDepth 100000
set_option linter.unusedVariables false
open Go.RowKit Go.Maps Go.Proofs.YtohlmkcgempdlaaGreatDoorW.PrintWords Go.Proofs.YtohlmkcgempdlaaGreatDoorW.PrintLast Go.Proofs.YtohlmkcgempdlaaGreatDoorW.PrintMore Go.Proofs.YtohlmkcgempdlaaGreatDoor.QD
section
variable {w w' : World} {A : Option Addr} {c : Nat} {ids : List Int}
theorem Cf4 {w : World} {A : Option Addr} {n : Nat} {l : List S123} (h : Kd.C k123 w A n l) {j : Nat} {x : S123} (hj : l[j]? = some x) (hw : wS x ≤ 1048576) : ∃ ad P1 Pc1 P3 Pc3 P4 Pc4 P5 Pc5, A = some ad ∧ Bm8 w P1 Pc1 P3 Pc3 P4 Pc4 P5 Pc5 x ∧ w.cell? (ad.add (j * 6)) = some (.bool x.f0) ∧ w.cell? ⟨(ad.add (j * 6)).block, (ad.add (j * 6)).off + 1, none⟩ = some (.slice P1 x.f1.length Pc1) ∧ w.cell? ⟨(ad.add (j * 6)).block, (ad.add (j * 6)).off + 2, none⟩ = some (.int .i64 x.f2.f0) ∧ w.cell? ⟨(ad.add (j * 6)).block, (ad.add (j * 6)).off + 3, none⟩ = some (.slice P3 x.f2.f1.length Pc3) ∧ w.cell? ⟨(ad.add (j * 6)).block, (ad.add (j * 6)).off + 4, none⟩ = some (.slice P4 x.f2.f2.length Pc4) ∧ w.cell? ⟨(ad.add (j * 6)).block, (ad.add (j * 6)).off + 5, none⟩ = some (.slice P5 x.f2.f3.length Pc5) := by
 obtain ⟨hl, hx⟩ := List.getElem?_eq_some_iff.1 hj
 have h1 := h.1
 obtain ⟨ad, A1, c1, A3, c3, A4, c4, A5, c5, e, d0, d1, d2, d3, d4, d5, m1, r1, m3, r3, m4, r4, m5, r5⟩ := An8 h (j : Int) (by omega) (by omega)
 rw [rdST_at l j hl, hx] at d0 d1 d2 d3 d4 d5 m1 r1 m3 r3 m4 r4 m5 r5
 simp only [Int.toNat_natCast] at d0 d1 d2 d3 d4 d5
 exact ⟨ad, A1, c1, A3, c3, A4, c4, A5, c5, e, ⟨r1, m1, r3, m3, r4, m4, r5, m5, hw⟩, d0, d1, d2, d3, d4, d5⟩
open Classical in
set_option maxHeartbeats 4000000 in
theorem Bm3 {A1 A2 : Option Addr} {c1 c2 : Nat} {a b : List S123} (h1 : Kd.C k123 w A1 a.length a) (h2 : Kd.C k123 w A2 b.length b) (hl : a.length ≤ 1048576) (hwa : ∀ x ∈ a, wS x ≤ 1048576) (hwb : ∀ x ∈ b, wS x ≤ 1048576) :
  Calls Tryz.prog 209 #[.slice A1 a.length c1, .slice A2 b.length c2] w fun e w' => e = .returned (.bool (decide (a = b))) ∧ Below w.heap.size w w' := by
 obtain ⟨rb, hrb⟩ : ∃ rb, rb = decide (a = b) := ⟨_, rfl⟩
 obtain ⟨n, hn⟩ : ∃ n, n = a.length := ⟨_, rfl⟩
 obtain ⟨m, hm⟩ : ∃ n, n = b.length := ⟨_, rfl⟩
 rw [← hrb, ← hn, ← hm]
 rw [← hn] at h1 hl
 rw [← hm] at h2
 have HRB := zA hrb
 have HN := zA (And.intro hn hm)
 clear hrb hn hm
 by_cases he : n = m
 ·subst he
  have H1 := zA (And.intro h1 hwa)
  have H2 := zA (And.intro h2 hwb)
  clear h1 h2 hwa hwb
  go_enter Tryz.func209, Tryz.ntmps209
  go_wp2_with fail
  go_loopw [5] (fun i W => ∃ j : Nat, i = .int .i64 j ∧ j ≤ n ∧ a.take j = b.take j ∧ Below w.heap.size w W) (fun i _ => n - (intOf i).toNat)
  case atStart => exact ⟨0, rfl, Nat.zero_le _, rfl, Below.refl _ _⟩
  case round =>
   obtain ⟨j, rfl, hj, ht, hb⟩ := hrel
   have HT := zA ht
   by_cases hlt : j < n
   ·obtain ⟨x, hx⟩ : ∃ x, a[j]? = some x := ⟨_, List.getElem?_eq_getElem (by rw [← HN.out.1]; exact hlt)⟩
    obtain ⟨y, hy⟩ : ∃ y, b[j]? = some y := ⟨_, List.getElem?_eq_getElem (by rw [← HN.out.2]; exact hlt)⟩
    have hb' : Below w.heap.size w wr.drew := hb.drew
    obtain ⟨ad, P1, Pc1, P3, Pc3, P4, Pc4, P5, Pc5, rfl, hsx, x0, x1, x2, x3, x4, x5⟩ := Cf4 (Kd.Ab1 H1.out.1 hb') hx (H1.out.2 x (List.mem_of_getElem? hx))
    obtain ⟨ae, Q1, Qc1, Q3, Qc3, Q4, Qc4, Q5, Qc5, rfl, hsy, y0, y1, y2, y3, y4, y5⟩ := Cf4 (Kd.Ab1 H2.out.1 hb') hy (H2.out.2 y (List.mem_of_getElem? hy))
    have HX := zA (And.intro hx hy)
    have SX := zA (And.intro hsx hsy)
    have B := zA hb'
    have hlt2 : (j : Int) < (n : Int) := by omega
    obtain ⟨r, hr⟩ : ∃ r, r = decide (x = y) := ⟨_, rfl⟩
    have HR := zA hr
    clear ht hb hb' hx hy hsx hsy hr
    go_wp2_with fail
    refine Ab3 (n := 10) (S := fun w' => w'.cell? (ad.add (j * 6)) = some (.bool x.f0) ∧ w'.cell? ⟨(ad.add (j * 6)).block, (ad.add (j * 6)).off + 1, none⟩ = some (.slice P1 x.f1.length Pc1) ∧ w'.cell? ⟨(ad.add (j * 6)).block, (ad.add (j * 6)).off + 2, none⟩ = some (.int .i64 x.f2.f0) ∧ w'.cell? ⟨(ad.add (j * 6)).block, (ad.add (j * 6)).off + 3, none⟩ = some (.slice P3 x.f2.f1.length Pc3) ∧ w'.cell? ⟨(ad.add (j * 6)).block, (ad.add (j * 6)).off + 4, none⟩ = some (.slice P4 x.f2.f2.length Pc4) ∧ w'.cell? ⟨(ad.add (j * 6)).block, (ad.add (j * 6)).off + 5, none⟩ = some (.slice P5 x.f2.f3.length Pc5) ∧ w'.cell? (ae.add (j * 6)) = some (.bool y.f0) ∧ w'.cell? ⟨(ae.add (j * 6)).block, (ae.add (j * 6)).off + 1, none⟩ = some (.slice Q1 y.f1.length Qc1) ∧ w'.cell? ⟨(ae.add (j * 6)).block, (ae.add (j * 6)).off + 2, none⟩ = some (.int .i64 y.f2.f0) ∧ w'.cell? ⟨(ae.add (j * 6)).block, (ae.add (j * 6)).off + 3, none⟩ = some (.slice Q3 y.f2.f1.length Qc3) ∧ w'.cell? ⟨(ae.add (j * 6)).block, (ae.add (j * 6)).off + 4, none⟩ = some (.slice Q4 y.f2.f2.length Qc4) ∧ w'.cell? ⟨(ae.add (j * 6)).block, (ae.add (j * 6)).off + 5, none⟩ = some (.slice Q5 y.f2.f3.length Qc5)) (ds := []) (bm_ 10 0) (by kernel_rfl) rfl rfl ⟨x0, x1, x2, x3, x4, x5, y0, y1, y2, y3, y4, y5⟩ (fun hHeld => ?_)
    refine pz_ 0 17 10 1 ?_
    refine pz_ 1 18 10 3 ?_
    refine pz_ 2 19 10 7 ?_
    refine pz_ 4 21 10 23 ?_
    refine pz_ 5 22 10 55 ?_
    refine pz_ 6 23 10 119 ?_
    refine tz_ 3 20 10 127 hHeld ?_
    refine tz_ 7 24 10 255 hHeld ?_
    refine oz_ 8 25 10 511 fun K hK => ?_
    refine gz_ Tryz.func213 #[.agg #[.bool x.f0, .slice P1 x.f1.length Pc1, .int .i64 x.f2.f0, .slice P3 x.f2.f1.length Pc3, .slice P4 x.f2.f2.length Pc4, .slice P5 x.f2.f3.length Pc5], .agg #[.bool y.f0, .slice Q1 y.f1.length Qc1, .int .i64 y.f2.f0, .slice Q3 y.f2.f1.length Qc3, .slice Q4 y.f2.f2.length Qc4, .slice Q5 y.f2.f3.length Qc5]] ?_
    with_reducible refine (Br3 SX.out.1 SX.out.2).mono ?_
    rintro e w3 ⟨rfl, hb_⟩
    have B3 := zA (B.out.trans (hb_.mono B.out.size))
    rw [← HR.out]
    refine ⟨_, rfl, ?_⟩
    refine hK.out _ _ ⟨hb_.kp hHeld.1, hb_.kp hHeld.2.1, hb_.kp hHeld.2.2.1, hb_.kp hHeld.2.2.2.1, hb_.kp hHeld.2.2.2.2.1, hb_.kp hHeld.2.2.2.2.2.1, hb_.kp hHeld.2.2.2.2.2.2.1, hb_.kp hHeld.2.2.2.2.2.2.2.1, hb_.kp hHeld.2.2.2.2.2.2.2.2.1, hb_.kp hHeld.2.2.2.2.2.2.2.2.2.1, hb_.kp hHeld.2.2.2.2.2.2.2.2.2.2.1, hb_.kp hHeld.2.2.2.2.2.2.2.2.2.2.2⟩ (fun hHeld => ?_)
    clear hK K
    refine nz_ ?_
    refine pz_ 9 26 10 1023 ?_
    refine dz_ ?_
    clear hHeld x0 x1 x2 x3 x4 x5 y0 y1 y2 y3 y4 y5
    cases r with
    | true =>
     have HXY : Aa2 (x = y) := ⟨of_decide_eq_true HR.out.symm⟩
     go_wp2_with fail
     go_roundw
     case rel => exact ⟨j + 1, by go_num, hlt, by rw [List.take_add_one, List.take_add_one, HT.out, HX.out.1, HX.out.2, HXY.out], B3.out⟩
     case measure => simp [intOf]; omega
    | false =>
     obtain rfl : rb = false := HRB.out.trans (decide_eq_false (fun e => by have h1 := HX.out.1; rw [e, HX.out.2] at h1; exact absurd (HR.out.trans (decide_eq_true (Option.some.inj h1).symm)) (by decide)))
     go_wp2_with fail
     go_ret
     exact ⟨rfl, B3.out⟩
   ·obtain rfl : j = n := by omega
    obtain rfl : rb = true := HRB.out.trans (decide_eq_true (by have h_ := HT.out; rw [HN.out.1, List.take_length, ← HN.out.1, HN.out.2, List.take_length] at h_; exact h_))
    have B := zA hb
    clear hlt ht hb
    go_wp2_with fail
    go_ret
    exact ⟨rfl, B.out⟩
 ·obtain rfl : rb = false := HRB.out.trans (decide_eq_false (fun e => he (by rw [HN.out.1, HN.out.2, e])))
  have g1 : ((n : Int) != (m : Int)) = true := by simp; omega
  clear h1 h2 hl he hwa hwb
  go_enter Tryz.func209, Tryz.ntmps209
  go_wp2_with fail
  go_ret
  exact ⟨rfl, Below.refl _ _⟩
structure SW (w : World) (sc : Array Value) (b : Bool) (k : Int) (v1 v3 v4 v5 : Value) (l1 : List Int) (l3 l4 : List S39) (l5 : List S172) (W : World) : Prop where
 bel : Below w.heap.size w W
 src : W.heap[w.heap.size]? = some (.cells sc 123 (0, 0))
 res : W.heap[w.heap.size + 1]? = some (.cells #[.bool false, .slice none 0 0, .int .i64 0, .slice none 0 0, .slice none 0 0, .slice none 0 0] 123 (0, 0))
 box : W.heap[w.heap.size + 1 + 1]? = some (.cells #[.bool b, v1, .int .i64 k, v3, v4, v5] 123 (0, 0))
 r1 : Kd.R (Kd.int .i64) 3 W w.heap.size (fun _ => True) v1 l1
 r3 : Kd.R k39 39 W w.heap.size (fun _ => True) v3 l3
 r4 : Kd.R k39 39 W w.heap.size (fun _ => True) v4 l4
 r5 : Kd.R k172 172 W w.heap.size (fun _ => True) v5 l5
section
variable {sc cs : Array Value} {b : Bool} {k k' : Int} {v1 v3 v4 v5 u : Value} {l1 : List Int} {l3 l4 : List S39} {l5 : List S172} {W W1 : World}
theorem SW.below (h : SW w sc b k v1 v3 v4 v5 l1 l3 l4 l5 W) (hb : Below W.heap.size W W1) : SW w sc b k v1 v3 v4 v5 l1 l3 l4 l5 W1 :=
 ⟨h.bel.trans (hb.mono h.bel.size), Aa3 h.src hb, Aa3 h.res hb, Aa3 h.box hb, Kd.Ac5 h.r1 hb, Kd.Ac5 h.r3 hb, Kd.Ac5 h.r4 hb, Kd.Ac5 h.r5 hb⟩
theorem SW.put (hb : Below w.heap.size w W1) (h0 : W1.heap[w.heap.size]? = some (.cells sc 123 (0, 0))) (h1 : W1.heap[w.heap.size + 1]? = some (.cells #[.bool false, .slice none 0 0, .int .i64 0, .slice none 0 0, .slice none 0 0, .slice none 0 0] 123 (0, 0))) (h2 : W1.heap[w.heap.size + 1 + 1]? = some (.cells cs 123 (0, 0))) (j : Nat) (u : Value) (hc : cs.setIfInBounds j u = #[.bool b, v1, .int .i64 k, v3, v4, v5])
  (r1 : Kd.R (Kd.int .i64) 3 W1 w.heap.size (fun _ => True) v1 l1) (r3 : Kd.R k39 39 W1 w.heap.size (fun _ => True) v3 l3) (r4 : Kd.R k39 39 W1 w.heap.size (fun _ => True) v4 l4) (r5 : Kd.R k172 172 W1 w.heap.size (fun _ => True) v5 l5) : SW w sc b k v1 v3 v4 v5 l1 l3 l4 l5 (W1.setCell ⟨w.heap.size + 1 + 1, j, none⟩ u) :=
 ⟨hb.setCell (p := ⟨w.heap.size + 1 + 1, j, none⟩) (by show w.heap.size ≤ w.heap.size + 1 + 1; omega) _, Ag6 h0 (p := ⟨w.heap.size + 1 + 1, j, none⟩) (by show w.heap.size ≠ w.heap.size + 1 + 1; omega) _, Ag6 h1 (p := ⟨w.heap.size + 1 + 1, j, none⟩) (by show w.heap.size + 1 ≠ w.heap.size + 1 + 1; omega) _, by rw [Aa7 h2, hc], Kd.Ac3 r1 h2 (by decide) j u, Kd.Ac3 r3 h2 (by decide) j u, Kd.Ac3 r4 h2 (by decide) j u, Kd.Ac3 r5 h2 (by decide) j u⟩
theorem SW.put1 {x : Int} (h : SW w sc b k v1 v3 v4 v5 l1 l3 l4 l5 W) (hr : Kd.R (Kd.int .i64) 3 W1 w.heap.size (fun _ => True) u (l1 ++ [x])) (hb : Below w.heap.size w W1) (hg : W.grownBy W1 v1.ownBlock) : W1.heap[w.heap.size + 1 + 1]? = some (.cells #[.bool b, v1, .int .i64 k, v3, v4, v5] 123 (0, 0)) ∧ SW w sc b k u v3 v4 v5 (l1 ++ [x]) l3 l4 l5 (W1.setCell ⟨w.heap.size + 1 + 1, 1, none⟩ u) := by
 have b2 := (hg.block _ (Ac0 h.box) (Kd.R_ne h.r1 h.box (by decide))).trans h.box
 exact ⟨b2, SW.put hb ((hg.block _ (Ac0 h.src) (Kd.R_ne h.r1 h.src (by decide))).trans h.src) ((hg.block _ (Ac0 h.res) (Kd.R_ne h.r1 h.res (by decide))).trans h.res) b2 1 u (by simp) hr (Kd.Az4 h.r3 h.r1 (by decide) hg) (Kd.Az4 h.r4 h.r1 (by decide) hg) (Kd.Az4 h.r5 h.r1 (by decide) hg)⟩
theorem SW.put5 {x : S172} (h : SW w sc b k v1 v3 v4 v5 l1 l3 l4 l5 W) (hr : Kd.R k172 172 W1 w.heap.size (fun _ => True) u (l5 ++ [x])) (hb : Below w.heap.size w W1) (hg : W.grownBy W1 v5.ownBlock) : W1.heap[w.heap.size + 1 + 1]? = some (.cells #[.bool b, v1, .int .i64 k, v3, v4, v5] 123 (0, 0)) ∧ SW w sc b k v1 v3 v4 u l1 l3 l4 (l5 ++ [x]) (W1.setCell ⟨w.heap.size + 1 + 1, 5, none⟩ u) := by
 have b2 := (hg.block _ (Ac0 h.box) (Kd.R_ne h.r5 h.box (by decide))).trans h.box
 exact ⟨b2, SW.put hb ((hg.block _ (Ac0 h.src) (Kd.R_ne h.r5 h.src (by decide))).trans h.src) ((hg.block _ (Ac0 h.res) (Kd.R_ne h.r5 h.res (by decide))).trans h.res) b2 5 u (by simp) (Kd.Az4 h.r1 h.r5 (by decide) hg) (Kd.Az4 h.r3 h.r5 (by decide) hg) (Kd.Az4 h.r4 h.r5 (by decide) hg) hr⟩
theorem SW.set (h : SW w sc b k v1 v3 v4 v5 l1 l3 l4 l5 W) {v3' v4' : Value} {m3 m4 : List S39} (j : Nat) (u : Value) (hc : #[.bool b, v1, .int .i64 k, v3, v4, v5].setIfInBounds j u = #[.bool b, v1, .int .i64 k', v3', v4', v5]) (r3 : Kd.R k39 39 W w.heap.size (fun _ => True) v3' m3) (r4 : Kd.R k39 39 W w.heap.size (fun _ => True) v4' m4) : SW w sc b k' v1 v3' v4' v5 l1 m3 m4 l5 (W.setCell ⟨w.heap.size + 1 + 1, j, none⟩ u) :=
 SW.put h.bel h.src h.res h.box j u hc h.r1 r3 r4 h.r5
theorem By2 {α : Type} {d : Kd α} {e t p B : Nat} {v : Value} {xs : List α} {cs : Array Value} (h : d.R e W B (fun _ => True) v xs) (hb : W.heap[p]? = some (.cells cs t (0, 0))) (ht : ∀ q, q ∈ e :: d.E → q ≠ t) (x0 x1 x2 x3 x4 x5 : Value) : d.R e ((((((W.setCell ⟨p, 0, none⟩ x0).setCell ⟨p, 1, none⟩ x1).setCell ⟨p, 2, none⟩ x2).setCell ⟨p, 3, none⟩ x3).setCell ⟨p, 4, none⟩ x4).setCell ⟨p, 5, none⟩ x5) B (fun _ => True) v xs :=
 Kd.Ac3 (Kd.Ac3 (Kd.Ac3 (Kd.Ac3 (Kd.Ac3 (Kd.Ac3 h hb ht 0 x0) (Aa7 hb 0 x0) ht 1 x1) (Aa7 (Aa7 hb 0 x0) 1 x1) ht 2 x2) (Aa7 (Aa7 (Aa7 hb 0 x0) 1 x1) 2 x2) ht 3 x3) (Aa7 (Aa7 (Aa7 (Aa7 hb 0 x0) 1 x1) 2 x2) 3 x3) ht 4 x4) (Aa7 (Aa7 (Aa7 (Aa7 (Aa7 hb 0 x0) 1 x1) 2 x2) 3 x3) 4 x4) ht 5 x5
end
set_option maxHeartbeats 8000000 in
theorem Cd3 (hi : Bx5 w A c ids) {S1 : Option Addr} {Sc1 : Nat} {S3 : Option Addr} {Sc3 : Nat} {S4 : Option Addr} {Sc4 : Nat} {S5 : Option Addr} {Sc5 : Nat} {s : S123} (hs : Bm8 w S1 Sc1 S3 Sc3 S4 Sc4 S5 Sc5 s) (hq : SOk Bh5 s) :
  Calls Tryz.prog 208 #[.agg #[.bool s.f0, .slice S1 s.f1.length Sc1, .int .i64 s.f2.f0, .slice S3 s.f2.f1.length Sc3, .slice S4 s.f2.f2.length Sc4, .slice S5 s.f2.f3.length Sc5], .slice A ids.length c, .int .i64 ids.length] w fun e w' => ∃ v1 v3 v4 v5 : Value, e = .returned (.agg #[.bool (Ah6 ids s).f0, v1, .int .i64 (Ah6 ids s).f2.f0, v3, v4, v5]) ∧ Kd.R (Kd.int .i64) 3 w' w.heap.size (fun _ => True) v1 (Ah6 ids s).f1 ∧ Kd.R k39 39 w' w.heap.size (fun _ => True) v3 (Ah6 ids s).f2.f1 ∧ Kd.R k39 39 w' w.heap.size (fun _ => True) v4 (Ah6 ids s).f2.f2 ∧ Kd.R k172 172 w' w.heap.size (fun _ => True) v5 (Ah6 ids s).f2.f3 ∧ Below w.heap.size w w' := by
 rw [Ba5]
 dsimp only
 have hbw : Below w.heap.size w (((w.alloc (.cells #[.bool s.f0, .slice S1 s.f1.length Sc1, .int .i64 s.f2.f0, .slice S3 s.f2.f1.length Sc3, .slice S4 s.f2.f2.length Sc4, .slice S5 s.f2.f3.length Sc5] 123)).alloc (.cells #[.bool false, .slice none 0 0, .int .i64 0, .slice none 0 0, .slice none 0 0, .slice none 0 0] 123)).alloc (.cells #[.bool s.f0, .slice none 0 0, .int .i64 0, .slice none 0 0, .slice none 0 0, .slice none 0 0] 123)) := ((bz_).alloc (by simp) _).alloc (by simp; omega) _
 have hS0 : SW w #[.bool s.f0, .slice S1 s.f1.length Sc1, .int .i64 s.f2.f0, .slice S3 s.f2.f1.length Sc3, .slice S4 s.f2.f2.length Sc4, .slice S5 s.f2.f3.length Sc5] s.f0 0 (.slice none 0 0) (.slice none 0 0) (.slice none 0 0) (.slice none 0 0) [] [] [] [] (((w.alloc (.cells #[.bool s.f0, .slice S1 s.f1.length Sc1, .int .i64 s.f2.f0, .slice S3 s.f2.f1.length Sc3, .slice S4 s.f2.f2.length Sc4, .slice S5 s.f2.f3.length Sc5] 123)).alloc (.cells #[.bool false, .slice none 0 0, .int .i64 0, .slice none 0 0, .slice none 0 0, .slice none 0 0] 123)).alloc (.cells #[.bool s.f0, .slice none 0 0, .int .i64 0, .slice none 0 0, .slice none 0 0, .slice none 0 0] 123)) := by
  have h1 := Aa6 (w.alloc (.cells #[.bool s.f0, .slice S1 s.f1.length Sc1, .int .i64 s.f2.f0, .slice S3 s.f2.f1.length Sc3, .slice S4 s.f2.f2.length Sc4, .slice S5 s.f2.f3.length Sc5] 123)) (.cells #[.bool false, .slice none 0 0, .int .i64 0, .slice none 0 0, .slice none 0 0, .slice none 0 0] 123)
  have h2 := Aa6 ((w.alloc (.cells #[.bool s.f0, .slice S1 s.f1.length Sc1, .int .i64 s.f2.f0, .slice S3 s.f2.f1.length Sc3, .slice S4 s.f2.f2.length Sc4, .slice S5 s.f2.f3.length Sc5] 123)).alloc (.cells #[.bool false, .slice none 0 0, .int .i64 0, .slice none 0 0, .slice none 0 0, .slice none 0 0] 123)) (.cells #[.bool s.f0, .slice none 0 0, .int .i64 0, .slice none 0 0, .slice none 0 0, .slice none 0 0] 123)
  rw [World.size_alloc] at h1
  rw [World.size_alloc, World.size_alloc] at h2
  exact ⟨hbw, Aa5 (Aa5 (Aa6 w _) _) _, Aa5 h1 _, h2, Kd.Aj9 _ _ _ _ _, Kd.Aj9 _ _ _ _ _, Kd.Aj9 _ _ _ _ _, Kd.Aj9 _ _ _ _ _⟩
 have HS0 := zA hS0
 have HI := zA hi
 have HSB := zA hs
 have HQ := zA hq
 obtain ⟨n1, hn1⟩ : ∃ n, n = s.f1.length := ⟨_, rfl⟩
 obtain ⟨n5, hn5⟩ : ∃ n, n = s.f2.f3.length := ⟨_, rfl⟩
 have HL : Aa2 (n1 ≤ 1048576 ∧ s.f2.f1.length ≤ 1048576 ∧ s.f2.f2.length ≤ 1048576 ∧ n5 ≤ 1048576) := ⟨by have h_ := hs.w_; unfold wS at h_; omega⟩
 have HN := zA (And.intro hn1 hn5)
 have Z1 : Aa2 (∀ W, SW w #[.bool s.f0, .slice S1 s.f1.length Sc1, .int .i64 s.f2.f0, .slice S3 s.f2.f1.length Sc3, .slice S4 s.f2.f2.length Sc4, .slice S5 s.f2.f3.length Sc5] s.f0 0 (.slice none 0 0) (.slice none 0 0) (.slice none 0 0) (.slice none 0 0) [] [] [] [] W → True) := ⟨fun _ _ => trivial⟩
 clear hbw hS0 hi hs hq hn1 hn5 Z1
 go_enter Tryz.func208, Tryz.ntmps208
 go_wp2_with fail
 go_loopw [8] (fun i W => ∃ (j : Nat) (v1 : Value), i = .int .i64 j ∧ j ≤ n1 ∧ SW w #[.bool s.f0, .slice S1 s.f1.length Sc1, .int .i64 s.f2.f0, .slice S3 s.f2.f1.length Sc3, .slice S4 s.f2.f2.length Sc4, .slice S5 s.f2.f3.length Sc5] s.f0 0 v1 (.slice none 0 0) (.slice none 0 0) (.slice none 0 0) ((s.f1.take j).map (Ac6 ids)) [] [] [] W) (fun i _ => n1 - (intOf i).toNat)
 case atStart => exact ⟨0, _, rfl, Nat.zero_le _, HS0.out⟩
 case round =>
  clear HS0
  obtain ⟨j, v1, rfl, hj, hsw⟩ := hrel
  have N1 := zA hsw
  have l1 := HL.out.1
  have z1 := bc_ hsw.src 1
  rw [← HN.out.1] at z1
  by_cases hlt : j < n1
  ·obtain ⟨x, hx⟩ : ∃ x, s.f1[j]? = some x := ⟨_, List.getElem?_eq_getElem (by rw [← HN.out.1]; exact hlt)⟩
   obtain ⟨ad, rfl, x0⟩ := Be3 (Kd.Ab1 HSB.out.C1 hsw.bel) hx
   obtain ⟨Aj, cj, rfl⟩ := Kd.Aa9 hsw.r1
   have hlen : ((s.f1.take j).map (Ac6 ids)).length = j := by rw [List.length_map, List.length_take, ← HN.out.1]; omega
   rw [hlen] at hsw N1
   have y1 := bc_ hsw.box 1
   have HLEN := zA hlen
   have HX := zA hx
   have RQ_ := zA (HQ.out.q1 x (List.mem_of_getElem? hx))
   have hlt2 : (j : Int) < (n1 : Int) := by omega
   clear hsw hlen hx
   go_wp2_with fail
   obtain ⟨w9, hw9⟩ : ∃ w9, World.drew wr = w9 := ⟨_, rfl⟩
   have b9 : Below wr.heap.size wr w9 := by rw [← hw9]; exact (Below.refl _ _).drew
   have N9 := zA (N1.out.below b9)
   have fx : ∀ {p : Addr} {u : Value}, wr.cell? p = some u → w9.cell? p = some u := fun h_ => b9.kp h_
   have g0 := fx y1
   have g1 := fx z1
   have g2 := fx x0
   clear fx b9 y1 z1 x0
   refine Ab3 (n := 14) (S := fun w' => w'.cell? ⟨w.heap.size + 1 + 1, 1, none⟩ = some (.slice Aj j cj) ∧ w'.cell? ⟨w.heap.size, 1, none⟩ = some (.slice (some ad) n1 Sc1) ∧ w'.cell? (ad.add j) = some (.int .i64 x)) (ds := [11, 13]) (bm_ 14 0) (by kernel_rfl) rfl rfl ⟨(by rw [hw9]; exact g0), (by rw [hw9]; exact g1), (by rw [hw9]; exact g2)⟩ (fun hHeld => ?_)
   rw [hw9] at hHeld ⊢
   clear hw9 g0 g1 g2
   refine pz_ 0 21 14 1 ?_
   refine pz_ 2 23 14 5 ?_
   refine pz_ 4 25 14 21 ?_
   refine pz_ 7 28 14 149 ?_
   refine pz_ 8 29 14 405 ?_
   refine tz_ 1 22 14 407 hHeld ?_
   refine tz_ 3 24 14 415 hHeld ?_
   refine pz_ 5 26 14 447 ?_
   refine tz_ 6 27 14 511 hHeld ?_
   refine oz_ 9 30 14 1023 fun K hK => ?_
   refine gz_ Tryz.func210 #[.int .i64 x, .slice A ids.length c, .int .i64 ids.length] ?_
   with_reducible refine (Be6 (HI.out.below N9.out.bel) x RQ_.out).mono ?_
   rintro e w10 ⟨rfl, e10⟩
   subst e10
   refine ⟨_, rfl, ?_⟩
   refine hK.out _ _ ⟨hHeld.1, hHeld.2.1, hHeld.2.2⟩ (fun hHeld => ?_)
   clear hK K
   refine nz_ ?_
   refine oz_ 10 31 14 2047 fun K hK => ?_
   refine vz_ ?_
   refine hK.out _ _ ⟨(((Below.refl _ _).alloc (Nat.le_refl _) (.cells #[.int .i64 (Ac6 ids x)] 3)).cell (World.block_lt_of_cell? _ _ hHeld.1)).trans hHeld.1, (((Below.refl _ _).alloc (Nat.le_refl _) (.cells #[.int .i64 (Ac6 ids x)] 3)).cell (World.block_lt_of_cell? _ _ hHeld.2.1)).trans hHeld.2.1, (((Below.refl _ _).alloc (Nat.le_refl _) (.cells #[.int .i64 (Ac6 ids x)] 3)).cell (World.block_lt_of_cell? _ _ hHeld.2.2)).trans hHeld.2.2⟩ (fun hHeld => ?_)
   clear hK K
   refine nz_ ?_
   refine lz_ 11 32 14 4095 fun K hK => ?_
   refine Kd.Ab9 (Kd.int .i64) (w0 := w) w.heap.size (by rfl) (.tmp 22) (.tmp 31) 23 3 (.int .i64 0) 8 rfl Tryz.underlying23 Ax8 rfl (by decide) (by decide) (.slice Aj j cj) ((s.f1.take j).map (Ac6 ids)) (Ac6 ids x) [.int .i64 (Ac6 ids x)] (fun _ => True) (fun _ => False) rfl rfl rfl (fun _ hk => hk.elim) (fun _ _ => trivial) N9.out.r1 N9.out.bel N9.out.bel.size (by rw [HLEN.out]; omega) ?_
   intro v2 w11 hr1 hb1 hg1 _
   have NA := zA (N9.out.put1 hr1 hb1 hg1)
   obtain ⟨A1_, c1_, ev1⟩ := Kd.Aa9 hr1
   rw [List.length_append, List.length_singleton, HLEN.out] at ev1
   subst ev1
   clear hr1 hb1 hg1
   refine hK.out _ _ ?_
   clear hK K
   refine nz_ ?_
   refine pz_ 12 33 14 8191 ?_
   refine Ag8 (i := 13) (N := none) (bm_ 14 16383) rfl rfl (by kernel_rfl) (by decide) (fun K hK => ?_)
   have hs_ : w11.cell? ⟨w.heap.size + 1 + 1, 1, none⟩ = some (.slice Aj j cj) := (Aa0 NA.out.1 1).trans rfl
   have hfs_ : w11.frozen? ⟨w.heap.size + 1 + 1, 1, none⟩ = false := Aa1 NA.out.1 1
   refine sz_ ?_
   refine hK.out _ _ ?_
   clear hK K
   refine dz_ ?_
   have NB := zA NA.out.2
   obtain ⟨w12, hw12⟩ : ∃ w12, w12 = w11.setCell ⟨w.heap.size + 1 + 1, 1, none⟩ (.slice A1_ (j + 1) c1_) := ⟨_, rfl⟩
   rw [← hw12] at NB ⊢
   clear hw12 NA
   go_wp2_with fail
   go_roundw
   case rel => exact ⟨j + 1, _, by go_num, hlt, by rw [List.take_add_one, HX.out, List.map_append]; exact NB.out⟩
   case measure => simp [intOf]; omega
  ·obtain rfl : j = n1 := by omega
   have hf : s.f1.take j = s.f1 := List.take_of_length_le (by rw [← HN.out.1]; exact Nat.le_refl _)
   rw [hf] at hsw
   have hk2 := bc_ hsw.src 2
   have hb2 := bc_ hsw.box 2
   have f2 := Aa1 hsw.box 2
   have N2 := zA (hsw.set (k' := s.f2.f0) 2 (.int .i64 s.f2.f0) (by simp) hsw.r3 hsw.r4)
   clear hlt hsw N1 hf
   go_upto_region 7 with fail
   obtain ⟨w2, hw2⟩ : ∃ w2, w2 = wr.setCell ⟨w.heap.size + 1 + 1, 2, none⟩ (.int .i64 s.f2.f0) := ⟨_, rfl⟩
   rw [← hw2] at N2 ⊢
   clear hw2 hk2 hb2 f2 z1
   have z3 := bc_ N2.out.src 3
   have K3 := Be5 (cl := Sc3) (HI.out.below N2.out.bel) (Kd.Ab1 HSB.out.C3 N2.out.bel) HL.out.2.1 HQ.out.q2
   go_wp2_with fail
   refine K3.mono ?_
   rintro e w2' ⟨u3, rfl, hr, hb⟩
   obtain ⟨A3_, c3_, ev⟩ := Kd.Aa9 hr
   rw [List.length_map] at ev
   subst ev
   have n3 := N2.out.below hb
   have b3 := bc_ n3.box 3
   have f3 := Aa1 n3.box 3
   have N3 := zA (n3.set (k' := s.f2.f0) 3 (.slice A3_ s.f2.f1.length c3_) (by simp) (Kd.Ak4 hr N2.out.bel.size) n3.r4)
   clear K3 hr hb n3 z3 N2
   go_upto_region 8 with fail
   obtain ⟨w3, hw3⟩ : ∃ w3, w3 = w2'.setCell ⟨w.heap.size + 1 + 1, 3, none⟩ (.slice A3_ s.f2.f1.length c3_) := ⟨_, rfl⟩
   rw [← hw3] at N3 ⊢
   clear hw3 b3 f3
   have z4 := bc_ N3.out.src 4
   have K4 := Be5 (cl := Sc4) (HI.out.below N3.out.bel) (Kd.Ab1 HSB.out.C4 N3.out.bel) HL.out.2.2.1 HQ.out.q3
   go_wp2_with fail
   refine K4.mono ?_
   rintro e w3' ⟨u4, rfl, hr, hb⟩
   obtain ⟨A4_, c4_, ev⟩ := Kd.Aa9 hr
   rw [List.length_map] at ev
   subst ev
   have n3 := N3.out.below hb
   have b4 := bc_ n3.box 4
   have f4 := Aa1 n3.box 4
   have N4 := zA (n3.set (k' := s.f2.f0) 4 (.slice A4_ s.f2.f2.length c4_) (by simp) n3.r3 (Kd.Ak4 hr N3.out.bel.size))
   clear K4 hr hb n3 z4 N3
   go_upto_region 9 with fail
   obtain ⟨w4, hw4⟩ : ∃ w4, w4 = w3'.setCell ⟨w.heap.size + 1 + 1, 4, none⟩ (.slice A4_ s.f2.f2.length c4_) := ⟨_, rfl⟩
   rw [← hw4] at N4 ⊢
   clear hw4 b4 f4
   go_wp2_with fail
   go_loopw [9] (fun i W => ∃ (j : Nat) (v5 : Value), i = .int .i64 j ∧ j ≤ n5 ∧ SW w #[.bool s.f0, .slice S1 s.f1.length Sc1, .int .i64 s.f2.f0, .slice S3 s.f2.f1.length Sc3, .slice S4 s.f2.f2.length Sc4, .slice S5 s.f2.f3.length Sc5] s.f0 s.f2.f0 v1 (.slice A3_ s.f2.f1.length c3_) (.slice A4_ s.f2.f2.length c4_) v5 (s.f1.map (Ac6 ids)) (s.f2.f1.map (mvp (Ac6 ids))) (s.f2.f2.map (mvp (Ac6 ids))) ((s.f2.f3.take j).map (mfp (Ac6 ids))) W) (fun i _ => n5 - (intOf i).toNat)
   case atStart => exact ⟨0, _, rfl, Nat.zero_le _, N4.out⟩
   case round =>
    clear N4
    obtain ⟨j, v5, rfl, hj, hsw⟩ := hrel
    have N1 := zA hsw
    have l5 := HL.out.2.2.2
    have z5 := bc_ hsw.src 5
    rw [← HN.out.2] at z5
    by_cases hlt : j < n5
    ·obtain ⟨x, hx⟩ : ∃ x, s.f2.f3[j]? = some x := ⟨_, List.getElem?_eq_getElem (by rw [← HN.out.2]; exact hlt)⟩
     obtain ⟨ad, rfl, x0, x1, x2, x3⟩ := By8 (Kd.Ab1 HSB.out.C5 hsw.bel) hx
     obtain ⟨Aj, cj, rfl⟩ := Kd.Aa9 hsw.r5
     have hlen : ((s.f2.f3.take j).map (mfp (Ac6 ids))).length = j := by rw [List.length_map, List.length_take, ← HN.out.2]; omega
     rw [hlen] at hsw N1
     have HLEN := zA hlen
     have HX := zA hx
     have RQ_ := zA (HQ.out.q4 x (List.mem_of_getElem? hx))
     have hlt2 : (j : Int) < (n5 : Int) := by omega
     clear hsw hlen hx
     go_upto_region 13 with fail
     obtain ⟨w9, hw9⟩ : ∃ w9, World.drew (wr.alloc (.cells #[.int .i64 x.f0.f0, .bool x.f0.f1, .int .i64 x.f0.f2, .bool x.f1] 172)) = w9 := ⟨_, rfl⟩
     have b9 : Below wr.heap.size wr w9 := by rw [← hw9]; exact (bz_).drew
     have N9 := zA (N1.out.below b9)
     have q9 : w9.heap[wr.heap.size]? = some (.cells #[.int .i64 x.f0.f0, .bool x.f0.f1, .int .i64 x.f0.f2, .bool x.f1] 172 (0, 0)) := by rw [← hw9]; exact Aa6 wr _
     have g0 := bc_ N9.out.box 5
     have g1 := bc_ q9 0
     have g2 := bc_ q9 1
     have g3 := bc_ q9 2
     have g4 := bc_ q9 3
     obtain ⟨y, hy⟩ : ∃ y, y = mvp (Ac6 ids) x.f0 := ⟨_, rfl⟩
     have KV := Bj4 (HI.out.below N9.out.bel) x.f0 RQ_.out
     rw [← hy] at KV
     have HY := zA hy
     clear b9 z5 x0 x1 x2 x3 q9 hy
     refine Ab3 (n := 16) (S := fun w' => w'.cell? ⟨w.heap.size + 1 + 1, 5, none⟩ = some (.slice Aj j cj) ∧ w'.cell? ⟨wr.heap.size, 0, none⟩ = some (.int .i64 x.f0.f0) ∧ w'.cell? ⟨wr.heap.size, 1, none⟩ = some (.bool x.f0.f1) ∧ w'.cell? ⟨wr.heap.size, 2, none⟩ = some (.int .i64 x.f0.f2) ∧ w'.cell? ⟨wr.heap.size, 3, none⟩ = some (.bool x.f1)) (ds := [12, 15]) (bm_ 16 0) (by kernel_rfl) rfl rfl ⟨(by rw [hw9]; exact g0), (by rw [hw9]; exact g1), (by rw [hw9]; exact g2), (by rw [hw9]; exact g3), (by rw [hw9]; exact g4)⟩ (fun hHeld => ?_)
     rw [hw9] at hHeld ⊢
     clear hw9 g0 g1 g2 g3 g4
     refine pz_ 0 69 16 1 ?_
     refine pz_ 1 70 16 3 ?_
     refine pz_ 3 72 16 11 ?_
     refine pz_ 5 74 16 43 ?_
     refine pz_ 6 75 16 107 ?_
     refine pz_ 8 77 16 363 ?_
     refine tz_ 2 71 16 367 hHeld ?_
     refine tz_ 4 73 16 383 hHeld ?_
     refine tz_ 9 78 16 895 hHeld ?_
     refine oz_ 7 76 16 1023 fun K hK => ?_
     refine gz_ Tryz.func212 #[.agg #[.int .i64 x.f0.f0, .bool x.f0.f1, .int .i64 x.f0.f2], .slice A ids.length c, .int .i64 ids.length] ?_
     with_reducible refine (KV).mono ?_
     rintro e w10 ⟨rfl, hb_⟩
     have M10 := zA (N9.out.below hb_)
     refine ⟨_, rfl, ?_⟩
     refine hK.out _ _ ⟨hb_.kp hHeld.1, hb_.kp hHeld.2.1, hb_.kp hHeld.2.2.1, hb_.kp hHeld.2.2.2.1, hb_.kp hHeld.2.2.2.2⟩ (fun hHeld => ?_)
     clear hK K
     refine nz_ ?_
     refine pz_ 10 79 16 2047 ?_
     refine oz_ 11 80 16 4095 fun K hK => ?_
     refine vz_ ?_
     refine hK.out _ _ ⟨(((Below.refl _ _).alloc (Nat.le_refl _) (.cells #[.int .i64 y.f0, .bool y.f1, .int .i64 y.f2, .bool x.f1] 172)).cell (World.block_lt_of_cell? _ _ hHeld.1)).trans hHeld.1, (((Below.refl _ _).alloc (Nat.le_refl _) (.cells #[.int .i64 y.f0, .bool y.f1, .int .i64 y.f2, .bool x.f1] 172)).cell (World.block_lt_of_cell? _ _ hHeld.2.1)).trans hHeld.2.1, (((Below.refl _ _).alloc (Nat.le_refl _) (.cells #[.int .i64 y.f0, .bool y.f1, .int .i64 y.f2, .bool x.f1] 172)).cell (World.block_lt_of_cell? _ _ hHeld.2.2.1)).trans hHeld.2.2.1, (((Below.refl _ _).alloc (Nat.le_refl _) (.cells #[.int .i64 y.f0, .bool y.f1, .int .i64 y.f2, .bool x.f1] 172)).cell (World.block_lt_of_cell? _ _ hHeld.2.2.2.1)).trans hHeld.2.2.2.1, (((Below.refl _ _).alloc (Nat.le_refl _) (.cells #[.int .i64 y.f0, .bool y.f1, .int .i64 y.f2, .bool x.f1] 172)).cell (World.block_lt_of_cell? _ _ hHeld.2.2.2.2)).trans hHeld.2.2.2.2⟩ (fun hHeld => ?_)
     clear hK K
     refine nz_ ?_
     refine lz_ 12 81 16 8191 fun K hK => ?_
     refine Kd.Ab9 k172 (w0 := w) w.heap.size (by rfl) (.tmp 71) (.tmp 80) 119 172 (.agg #[.int .i64 0, .bool false, .int .i64 0, .bool false]) 32 rfl Tryz.underlying119 Bm1 rfl (by decide) (by decide) (.slice Aj j cj) ((s.f2.f3.take j).map (mfp (Ac6 ids))) (⟨y, x.f1⟩ : S172) [.int .i64 y.f0, .bool y.f1, .int .i64 y.f2, .bool x.f1] (fun _ => True) (fun _ => False) rfl rfl (Bl8 _ _ _ _) (fun _ hk => hk.elim) (fun _ _ => trivial) M10.out.r5 M10.out.bel M10.out.bel.size (by rw [HLEN.out]; omega) ?_
     intro v2 w11 hr1 hb1 hg1 _
     have NA := zA (M10.out.put5 hr1 hb1 hg1)
     obtain ⟨A1_, c1_, ev1⟩ := Kd.Aa9 hr1
     rw [List.length_append, List.length_singleton, HLEN.out] at ev1
     subst ev1
     clear hr1 hb1 hg1
     refine hK.out _ _ ?_
     clear hK K
     refine nz_ ?_
     refine pz_ 13 82 16 16383 ?_
     refine pz_ 14 83 16 32767 ?_
     refine Ag8 (i := 15) (N := none) (bm_ 16 65535) rfl rfl (by kernel_rfl) (by decide) (fun K hK => ?_)
     have hs_ : w11.cell? ⟨w.heap.size + 1 + 1, 5, none⟩ = some (.slice Aj j cj) := (Aa0 NA.out.1 5).trans rfl
     have hfs_ : w11.frozen? ⟨w.heap.size + 1 + 1, 5, none⟩ = false := Aa1 NA.out.1 5
     refine sz_ ?_
     refine hK.out _ _ ?_
     clear hK K
     refine dz_ ?_
     have NB := zA NA.out.2
     obtain ⟨w12, hw12⟩ : ∃ w12, w12 = w11.setCell ⟨w.heap.size + 1 + 1, 5, none⟩ (.slice A1_ (j + 1) c1_) := ⟨_, rfl⟩
     rw [← hw12] at NB ⊢
     clear hw12 NA
     go_wp2_with fail
     go_roundw
     case rel => exact ⟨j + 1, _, by go_num, hlt, by rw [List.take_add_one, HX.out, List.map_append]; have h_ := NB.out; rw [HY.out] at h_; exact h_⟩
     case measure => simp [intOf]; omega
    ·obtain rfl : j = n5 := by omega
     have hf : s.f2.f3.take j = s.f2.f3 := List.take_of_length_le (by rw [← HN.out.2]; exact Nat.le_refl _)
     rw [hf] at hsw
     obtain ⟨B1_, d1_, ev1⟩ := Kd.Aa9 hsw.r1
     obtain ⟨B5_, d5_, ev5⟩ := Kd.Aa9 hsw.r5
     rw [List.length_map] at ev1 ev5
     subst ev1 ev5
     have b0 := bc_ hsw.box 0
     have t0 := bc_ hsw.res 0
     have f0 := Aa1 hsw.res 0
     have b1 := bc_ hsw.box 1
     have t1 := bc_ hsw.res 1
     have f1 := Aa1 hsw.res 1
     have b2 := bc_ hsw.box 2
     have t2 := bc_ hsw.res 2
     have f2 := Aa1 hsw.res 2
     have b3 := bc_ hsw.box 3
     have t3 := bc_ hsw.res 3
     have f3 := Aa1 hsw.res 3
     have b4 := bc_ hsw.box 4
     have t4 := bc_ hsw.res 4
     have f4 := Aa1 hsw.res 4
     have b5 := bc_ hsw.box 5
     have t5 := bc_ hsw.res 5
     have f5 := Aa1 hsw.res 5
     have N6 := zA hsw
     clear hlt hsw N1 hf
     go_wp2_with fail
     refine bodyPost_ret (results_cell_row rfl _ _ (w.heap.size + 1) 123 #[.bool s.f0, .slice B1_ s.f1.length d1_, .int .i64 s.f2.f0, .slice A3_ s.f2.f1.length c3_, .slice A4_ s.f2.f2.length c4_, .slice B5_ s.f2.f3.length d5_] (0, 0) _ rfl (Aa7 (Aa7 (Aa7 (Aa7 (Aa7 (Aa7 N6.out.res 0 _) 1 _) 2 _) 3 _) 4 _) 5 _) Tryz.underlying123 rfl (by kernel_rfl)) rfl ?_
     exact ⟨_, _, _, _, rfl, By2 N6.out.r1 N6.out.res (by decide) _ _ _ _ _ _, By2 N6.out.r3 N6.out.res (by decide) _ _ _ _ _ _, By2 N6.out.r4 N6.out.res (by decide) _ _ _ _ _ _, By2 N6.out.r5 N6.out.res (by decide) _ _ _ _ _ _, ((((((N6.out.bel.setCell (p := ⟨w.heap.size + 1, 0, none⟩) (Nat.le_succ _) _).setCell (p := ⟨w.heap.size + 1, 1, none⟩) (Nat.le_succ _) _).setCell (p := ⟨w.heap.size + 1, 2, none⟩) (Nat.le_succ _) _).setCell (p := ⟨w.heap.size + 1, 3, none⟩) (Nat.le_succ _) _).setCell (p := ⟨w.heap.size + 1, 4, none⟩) (Nat.le_succ _) _).setCell (p := ⟨w.heap.size + 1, 5, none⟩) (Nat.le_succ _) _)⟩
end
def OneOut (B g : Nat) (ok : Nat → Prop) (gs : List (List S123)) (o : List S123) (w : World) (e : Ending) (w' : World) : Prop :=
 ∃ v', e = .returned (.int .i64 (oneF gs o)) ∧ R6 B g (OkN ok w.heap.size) (oneG gs o) v' w' ∧ FrR B g w w'
open Classical in
set_option maxHeartbeats 8000000 in
theorem Bt6 (B g : Nat) (ok : Nat → Prop) (gs : List (List S123)) (v : Value) (Ar : Option Addr) (cr : Nat) (r : S132) (Ai : Option Addr) (ci : Nat) (ids : List Int) (w : World) (hT : R6 B g ok gs v w) (hB : B ≤ w.heap.size)
  (hr : ∀ W, FrR B g w W → Kd.C k123 W Ar r.f0.length r.f0) (hcr : r.f0.length ≤ cr) (hi : ∀ W, FrR B g w W → Kd.C (Kd.int .i64) W Ai ids.length ids) (hci : ids.length ≤ ci) (hin : ∀ s ∈ r.f0, RIn s) (hw : wG r.f0 ≤ 1048576) (hids : ids.length ≤ 4194304)
  (hm : Ab2 gs ≤ 1099511627776) (hgl : gs.length ≤ 1099511627776) (hwg : ∀ x ∈ gs, wG x ≤ 1048576) :
  Calls Tryz.prog 205 #[.pointer (some ⟨g, 0, none⟩), .agg #[.slice Ar r.f0.length cr, .bool r.f1], .slice Ai ids.length ci] w (OneOut B g ok gs (ownG ids r) w) := by
 have RS : Aa2 (RO B g ok gs v w (.cells #[.slice Ar r.f0.length cr, .bool r.f1] 132 (0, 0)) (.slice none 0 0) [] (w.alloc (.cells #[.slice Ar r.f0.length cr, .bool r.f1] 132))) := ⟨RO.start hT hB _⟩
 have HB := zA hB
 have HR := zA hr
 have HI := zA hi
 have HIN := zA hin
 have HW := zA hw
 have HWG := zA hwg
 have hrl : r.f0.length ≤ 1048576 := Nat.le_trans (Ar2 r.f0) hw
 have hm0 := Aj3 gs
 have HM := zA (And.intro hm0 hm)
 have HBG := zA hT.hg
 clear hT hB hr hi hin hw hwg hm hm0
 obtain ⟨o, ho⟩ : ∃ o, o = ownG ids r := ⟨_, rfl⟩
 rw [← ho]
 have HO := zA ho
 clear ho
 go_enter Tryz.func205, Tryz.ntmps205
 go_wp2_with fail
 go_loopw [7, 8] (fun vo i W => ∃ (k : Nat), i = .int .i64 k ∧ k ≤ r.f0.length ∧ RO B g ok gs v w (.cells #[.slice Ar r.f0.length cr, .bool r.f1] 132 (0, 0)) vo ((r.f0.take k).map (Ah6 ids)) W) (fun _ i _ => r.f0.length - (intOf i).toNat)
 case atStart => exact ⟨0, rfl, Nat.zero_le _, RS.out⟩
 case round =>
  clear RS
  obtain ⟨k, rfl, hk, hRO⟩ := hrel
  have O0 := zA hRO
  clear hRO
  have b0 : wr.cell? ⟨w.heap.size, 0, none⟩ = some (.slice Ar r.f0.length cr) := (Aa0 O0.out.bx 0).trans rfl
  by_cases hlk : k < r.f0.length
  ·obtain ⟨lo, hlo⟩ : ∃ lo : List S123, lo = (r.f0.take k).map (Ah6 ids) := ⟨_, rfl⟩
   rw [← hlo] at O0
   have hll : lo.length ≤ r.f0.length := by rw [hlo, List.length_map, List.length_take]; omega
   have HLO := zA hlo
   clear hlo
   obtain ⟨Av, cv, hvo⟩ := Kd.Aa9 O0.out.ov
   subst hvo
   obtain ⟨ae, A1', c1, A3, c3, A4, c4, A5, c5, ea, d0, d1, d2, d3, d4, d5, n1, r1, n3, r3, n4, r4, n5, r5⟩ := An8 (HR.out wr O0.out.fr) (k : Int) (by omega) (by omega)
   have HXK := zA (Bc7 r.f0 k hlk)
   cases ea
   simp only [Int.toNat_natCast] at d0 d1 d2 d3 d4 d5
   obtain ⟨x, hx⟩ : ∃ x, x = Ac2 r.f0 (k : Int) := ⟨_, rfl⟩
   rw [← hx] at d0 d1 d2 d3 d4 d5 n1 r1 n3 r3 n4 r4 n5 r5 HXK
   clear hx
   have R1 := zA r1
   have R3 := zA r3
   have R4 := zA r4
   have R5 := zA r5
   have RI := zA (HI.out wr O0.out.fr)
   clear r1 r3 r4 r5
   have kl0 : (0 : Int) ≤ (k : Int) := Int.natCast_nonneg k
   have kl1 : (k : Int) < (r.f0.length : Int) := by omega
   go_wp2_with fail
   have SI := zA (HIN.out x (List.mem_of_getElem? HXK.out))
   have WX : Aa2 (wS x ≤ 1048576) := ⟨Nat.le_trans (Av0 (List.mem_of_getElem? HXK.out)) HW.out⟩
   refine (Cd3 (A := Ai) (c := ci) ⟨RI.out, hci, by omega⟩ ⟨R1.out, n1, R3.out, n3, R4.out, n4, R5.out, n5, WX.out⟩ SI.out.ok).mono ?_
   rintro e w3 ⟨v1, v3, v4, v5, rfl, h1, h3, h4, h5, hb3⟩
   have hm := Br0 (b := (Ah6 ids x).f0) (n := (Ah6 ids x).f2.f0) h1 (Kd.Af7 h3 (fun _ _ => trivial)) (Kd.Af7 h4 (fun _ _ => trivial)) h5
   have hm2 : k123.M w3 w.heap.size (fun k_ => wr.heap.size ≤ k_) (Ah6 ids x) [.bool (Ah6 ids x).f0, v1, .int .i64 (Ah6 ids x).f2.f0, v3, v4, v5] := k123.M_lower (Nat.le_of_lt (Ac0 O0.out.bx)) (k123.M_mono (fun k_ hk_ => hk_.2.1) (k123.M_bound hm))
   have O3 := zA (O0.out.below hb3)
   have HZ3 : Aa2 (wr.heap.size ≤ w3.heap.size) := ⟨hb3.size⟩
   have HZW : Aa2 (w.heap.size ≤ w3.heap.size) := ⟨Nat.le_trans (Nat.le_of_lt (Ac0 O0.out.bx)) hb3.size⟩
   have NV : ∀ k_, wr.heap.size ≤ k_ → some k_ ≠ (Value.slice Av lo.length cv).ownBlock := fun k_ hk_ e_ => by obtain ⟨_, in_, ho_, _⟩ := O0.out.ov; have := Am3 ho_ k_ e_.symm; omega
   have HNV := zA NV
   have HM2 := zA hm2
   obtain ⟨y, hy⟩ : ∃ y, y = Ah6 ids x := ⟨_, rfl⟩
   rw [← hy] at HM2 ⊢
   have HY := zA hy
   clear h1 h3 h4 h5 hm hm2 hb3 NV d0 d1 d2 d3 d4 d5 hy b0
   go_wp2_with (at_builtin; refine Kd.Af9 k123 (w0 := w3) w.heap.size rfl (.tmp 18) (.tmp 28) 130 123 (.agg #[.bool false, .slice none 0 0, .int .i64 0, .slice none 0 0, .slice none 0 0, .slice none 0 0]) 112 rfl Tryz.underlying130 Cj7 rfl (by decide) (by omega) (.slice Av lo.length cv) lo y [.bool y.f0, v1, .int .i64 y.f2.f0, v3, v4, v5] (fun _ => True) (fun k_ => wr.heap.size ≤ k_) rfl rfl HM2.out (fun k_ hk_ => ⟨trivial, HNV.out k_ hk_⟩) (fun _ _ => trivial) O3.out.ov (Below.refl _ _) HZW.out (by omega) ?_; intro v6 w4 ho _ hg hat; have O4 := zA (O3.out.app ho hg hat); clear ho hg hat)
   go_roundw
   case rel => exact ⟨k + 1, by go_num, by omega, by have e_ : (r.f0.take (k + 1)).map (Ah6 ids) = lo ++ [y] := (by rw [List.take_add_one, HXK.out, List.map_append, HLO.out, HY.out]; rfl); rw [e_]; exact O4.out⟩
   case measure => simp [intOf]; omega
  ·obtain rfl : k = r.f0.length := by omega
   rw [List.take_length] at O0
   clear hk hlk
   rw [show r.f0.map (Ah6 ids) = o from HO.out.symm] at O0
   have hol : o.length ≤ 1048576 := by rw [HO.out, Ac1]; exact hrl
   obtain ⟨Ao, co, hvo, hco, hCo⟩ := Kd.Ae4 O0.out.ov
   subst hvo
   clear hCo
   obtain ⟨wk, rfl⟩ : ∃ wk : World, wk = wr := ⟨_, rfl⟩
   go_wp2_with fail
   go_loopw [9] (fun i W => ∃ (k : Nat), i = .int .i64 k ∧ k ≤ gs.length ∧ RO B g ok gs v w (.cells #[.slice Ar r.f0.length cr, .bool r.f1] 132 (0, 0)) (.slice Ao o.length co) o W ∧ ∀ (j : Nat) (x : List S123), j < k → gs[j]? = some x → x ≠ o) (fun i _ => gs.length - (intOf i).toNat)
   case atStart => exact ⟨0, rfl, Nat.zero_le _, O0.out, fun j x h => absurd h (Nat.not_lt_zero j)⟩
   case round =>
    clear O0 b0
    obtain ⟨k, rfl, hk, hRO, hno⟩ := hrel
    have O1 := zA hRO
    have HNO := zA hno
    clear hRO hno
    have t0 : wr.cell? ⟨g, 0, none⟩ = some v := (Aa0 O1.out.t.box 0).trans rfl
    obtain ⟨Av, cv, hvv, hcv, hCv⟩ := Kd.Ae4 O1.out.t.row
    rw [Ai9] at hvv hcv
    have HVV := zA hvv
    rw [hvv] at t0
    by_cases hlk : k < gs.length
    ·obtain ⟨x, hx⟩ : ∃ x, gs[k]? = some x := ⟨_, List.getElem?_eq_getElem hlk⟩
     obtain ⟨ad, At, ct, ea, d0, d1, dl, dC⟩ := at_T271 hCv (k : Int) (by omega) (by rw [Ai9]; omega)
     rw [rdRol_at _ k _ (Bn7 0 gs k x hx)] at d0 d1 dl dC
     rw [Int.zero_add] at d1
     simp only [Int.toNat_natCast] at d0 d1
     dsimp only at d0 d1 dl dC
     cases ea
     have HX := zA hx
     have WX : Aa2 (wG x ≤ 1048576) := ⟨HWG.out x (List.mem_of_getElem? hx)⟩
     have DC := zA dC
     have OC : Aa2 (Kd.C k123 wr Ao o.length o) := ⟨by obtain ⟨_, _, e1, _, h1⟩ := Kd.Ae4 O1.out.ov; injection e1 with e1 e2 e3; subst e1; exact h1⟩
     clear hCv dC hvv hx
     have kl0 : (0 : Int) ≤ (k : Int) := Int.natCast_nonneg k
     have kl1 : (k : Int) < (gs.length : Int) := by omega
     obtain ⟨f0, hf0⟩ : ∃ f0, f0 = Ab8 gs k := ⟨_, rfl⟩
     rw [← hf0] at d1
     have HF0 := zA hf0
     clear hf0
     go_wp2_with fail
     refine (Bm3 (c1 := ct) (c2 := co) DC.out OC.out (Nat.le_trans (Ar2 x) WX.out) (fun y hy => Nat.le_trans (Av0 hy) WX.out) (fun y hy => Nat.le_trans (Av0 hy) (by rw [HO.out]; exact Nat.le_trans (Nat.le_of_eq (Bx7 ids r)) HW.out))).mono ?_
     rintro e w3 ⟨rfl, hb3⟩
     have O3 := zA (O1.out.below hb3)
     have t0' := hb3.cell (World.block_lt_of_cell? wr _ t0) |>.trans t0
     have d1' := hb3.cell (World.block_lt_of_cell? wr _ d1) |>.trans d1
     clear hb3 t0 d0 d1
     by_cases he : x = o
     ·rw [decide_eq_true he]
      have HFK : Aa2 (Ak9 gs o = some k) := ⟨Bw6 (by rw [HX.out, he]) HNO.out⟩
      clear he
      go_wp2_with fail
      go_ret
      refine ⟨v, ?_, ?_, O3.out.fr⟩
      ·rw [Bp1 HFK.out, HF0.out]; rfl
      ·rw [Bo9 HFK.out]; exact O3.out.t.weak (fun _ hk_ => hk_.1)
     ·rw [decide_eq_false he]
      have HNE := zA he
      clear he
      go_wp2_with fail
      go_roundw
      case rel => exact ⟨k + 1, by go_num, by omega, O3.out, fun j y hj hy => by rcases Nat.lt_or_ge j k with hl | hl; exact HNO.out j y hl hy; obtain rfl : j = k := (by omega); rw [HX.out] at hy; injection hy with hy; subst hy; exact HNE.out⟩
      case measure => simp [intOf]; omega
    ·obtain rfl : k = gs.length := by omega
     have HFK : Aa2 (Ak9 gs o = none) := ⟨findK_no HNO.out⟩
     obtain ⟨wq, rfl⟩ : ∃ wq : World, wq = wr := ⟨_, rfl⟩
     clear hk hlk hCv
     obtain ⟨mg, hmg⟩ : ∃ mg, mg = Ab2 gs := ⟨_, rfl⟩
     have HMG := zA hmg
     have t1 : wq.cell? ⟨g, 1, none⟩ = some (.int .i64 mg) := by rw [hmg]; exact (Aa0 O1.out.t.box 1).trans rfl
     have hm0 : 0 ≤ mg := by rw [hmg]; exact HM.out.1
     have hm1 : mg ≤ 1099511627776 := by rw [hmg]; exact HM.out.2
     clear hmg
     have hws : wrap64 (mg + (o.length : Int)) = mg + o.length := by unfold wrap64; omega
     subst hvv
     have T1 : Aa2 (R6 B g (OkN ok w.heap.size) gs (.slice Av gs.length cv) wq) := ⟨O1.out.t.weak (fun _ hk_ => hk_.1)⟩
     have HMM : Aa2 (k271.M wq B (fun k_ => OkN ok w.heap.size k_ ∧ some k_ ≠ (Value.slice Av gs.length cv).ownBlock) ⟨o, mg⟩ [.slice Ao o.length co, .int .i64 mg]) := ⟨⟨[.slice Ao o.length co], [.int .i64 mg], rfl, ⟨_, rfl, Kd.Af7 (Cm5 O1.out.t.row (Kd.Ak4 (Kd.Af6 O1.out.ov) HB.out) (by decide)) (fun k_ hk_ => ⟨.inr hk_.1.2.1, hk_.2⟩)⟩, rfl⟩⟩
     have HZN : Aa2 (w.heap.size ≤ wq.heap.size) := ⟨O1.out.fr.bel.size⟩
     have HZB : Aa2 (B ≤ wq.heap.size) := ⟨Nat.le_trans HB.out O1.out.fr.bel.size |> fun h => O1.out.fr.zz⟩
     go_wp2_with (at_builtin; refine Kd.Af9 k271 (w0 := wq) B rfl (.tmp 65) (.tmp 69) 261 271 (.agg #[.slice none 0 0, .int .i64 0]) 32 rfl Tryz.underlying261 infoRol rfl (by decide) (by omega) (.slice Av gs.length cv) (Ai0 0 gs) (⟨o, mg⟩ : S271) [.slice Ao o.length co, .int .i64 mg] (OkN ok w.heap.size) (fun k_ => OkN ok w.heap.size k_ ∧ some k_ ≠ (Value.slice Av gs.length cv).ownBlock) rfl rfl HMM.out (fun k_ hk_ => hk_) (fun k_ hk_ => .inr (Nat.le_trans HZN.out hk_)) T1.out.row (Below.refl _ _) HZB.out (by rw [Ai9]; omega) ?_; intro v6 w4 ho _ hg hat; have e_ : Ai0 0 gs ++ [⟨o, mg⟩] = Ai0 0 (gs ++ [o]) := (by rw [Bk7, Int.zero_add, HMG.out]); rw [e_] at ho; obtain ⟨A6, c6, e6⟩ := Kd.Aa9 ho; rw [Ai9, List.length_append, List.length_singleton] at e6; subst e6; have b4 := Ab5 T1.out.box hg (Kd.R_ne T1.out.row T1.out.box (by decide)); have x1 : w4.cell? ⟨g, 1, none⟩ = some (.int .i64 mg) := (by rw [HMG.out]; exact (Aa0 b4 1).trans rfl); have y0 : w4.frozen? ⟨g, 0, none⟩ = false := Aa1 b4 0; have y1 : w4.frozen? ⟨g, 1, none⟩ = false := Aa1 b4 1; have x0 : w4.cell? ⟨g, 0, none⟩ = some (.slice Av gs.length cv) := (Aa0 b4 0).trans rfl; have T4 := zA (T1.out.put ho hg); have F4 := zA (((O1.out.fr.fams T1.out.row hg).store HBG.out 0 (.slice A6 (gs.length + 1) c6)).store HBG.out 1 (.int .i64 (Ab2 gs + o.length))); rw [← HMG.out] at T4 F4; clear ho hg hat e_ b4)
     go_ret
     refine ⟨.slice A6 (gs.length + 1) c6, ?_, ?_, F4.out⟩
     ·rw [Bp2 HFK.out, ← HMG.out]; rfl
     ·rw [Bp0 HFK.out]; exact T4.out
theorem fr_row {B g b : Nat} {w W : World} {v : Value} {l : List Int} {B0 : Nat} {ok : Nat → Prop} (hf : FrA B g b w W) (hr : Kd.R (Kd.int .i64) 3 w B0 ok v l) (hg : ∃ cs t, w.heap[g]? = some (.cells cs t (0, 0)) ∧ t ≠ 3) (hb : ∀ cs t, w.heap[b]? ≠ some (.cells cs t (0, 0))) : Kd.R (Kd.int .i64) 3 W B0 (fun _ => True) v l := by
 refine Kd.Af7 (Kd.Aw5 (Kd.Af6 hr) (w1 := W) (fun k hk hlt => ?_)) (fun _ _ => trivial)
 obtain ⟨_, _, _, q, hq, cells, hc⟩ := hk
 have hq3 : q = 3 := List.mem_singleton.1 hq
 subst hq3
 rw [hc]
 refine hf.oth k _ hc ?_ ?_ ?_
 ·rintro rfl
  obtain ⟨cs, t, h1, h2⟩ := hg
  rw [h1] at hc
  injection hc with hc
  injection hc with _ hc _
  exact h2 hc
 ·rintro rfl
  exact hb _ _ hc
 ·intro c_ fz_ e
  injection e with _ e _
  exact absurd e (by decide)
set_option maxHeartbeats 8000000 in
theorem Cg8 (A1 : Option Addr) (c1 : Nat) (a : List S132) (A2 : Option Addr) (c2 : Nat) (b : List S132) (x y : Int) (w : World) (hCa : Kd.C k132 w A1 a.length a) (hca : a.length ≤ c1) (hCb : Kd.C k132 w A2 b.length b) (hcb : b.length ≤ c2)
  (hsa : ∀ r ∈ a, ∀ s ∈ r.f0, SOk (fun _ => True) s) (hsb : ∀ r ∈ b, ∀ s ∈ r.f0, SOk (fun _ => True) s) (hia : Clo a → ∀ r ∈ a, ∀ s ∈ r.f0, RIn s) (hib : Clo b → ∀ r ∈ b, ∀ s ∈ r.f0, RIn s) (hwa : wL a ≤ 1048576) (hwb : wL b ≤ 1048576) (hla : a.length ≤ 1048576) (hlb : b.length ≤ 1048576)
  (htab : Lib.TabBelow Tryz.prog w.heap.size w "internal/strconv.uint64pow10" .u64 Lib.pow10Tab) :
  Calls Tryz.prog 165 #[.slice A1 a.length c1, .slice A2 b.length c2, .int .i64 x, .int .i64 y] w fun e w' => e = .returned (.tuple #[.bool (oneM a b x y).1, .int .i64 (oneM a b x y).2]) ∧ Below w.heap.size w w' := by
 have hta : Aa8 a ≤ 1048576 := Nat.le_trans (Ab4 a) hwa
 have htb : Aa8 b ≤ 1048576 := Nat.le_trans (Ab4 b) hwb
 have N1 : Aa2 (Aa8 a ≤ 1099511627776) := ⟨by omega⟩
 have N2 : Aa2 (Aa8 b ≤ 1099511627776) := ⟨by omega⟩
 have N3 : Aa2 (a.length ≤ 1099511627776) := ⟨by omega⟩
 have N4 : Aa2 (b.length ≤ 1099511627776) := ⟨by omega⟩
 have HCA := zA hCa
 have HCB := zA hCb
 have HSA := zA hsa
 have HSB := zA hsb
 have HIA := zA hia
 have HIB := zA hib
 have HWA := zA hwa
 have HWB := zA hwb
 have HTAB := zA htab
 clear hCa hCb hsa hsb hia hib hwa hwb htab
 go_enter Tryz.func165, Tryz.ntmps165
 go_wp2_with fail
 refine (An4 A1 c1 a w HCA.out hca (by omega) (by omega) HSA.out).mono ?_
 rintro e w1 ⟨⟨n, er, rfl, hcl⟩, hb1⟩
 have B1 := zA hb1
 clear hb1
 rcases hcl with ⟨rfl, rfl, hcla⟩ | ⟨rfl, hncla⟩
 rotate_left
 ·go_wp2_with fail
  go_ret2
  have e0 : oneM a b x y = (false, 50) := by unfold oneM; rw [if_neg (fun h => hncla h.1)]
  rw [e0]
  exact ⟨rfl, B1.out⟩
 have HCLA := zA hcla
 clear hcla
 go_wp2_with fail
 refine (An4 A2 c2 b w1 (Kd.Ab1 HCB.out B1.out) hcb (by omega) (by omega) HSB.out).mono ?_
 rintro e w2 ⟨⟨n, er, rfl, hcl⟩, hb2⟩
 have B2 := zA (B1.out.trans (hb2.mono B1.out.size))
 clear hb2
 rcases hcl with ⟨rfl, rfl, hclb⟩ | ⟨rfl, hnclb⟩
 rotate_left
 ·go_wp2_with fail
  go_ret2
  have e0 : oneM a b x y = (false, 50) := by unfold oneM; rw [if_neg (fun h => hnclb h.2)]
  rw [e0]
  exact ⟨rfl, B2.out⟩
 have HCLB := zA hclb
 clear hclb
 have HCA2 := zA (Kd.Ab1 HCA.out B2.out)
 have HCB2 := zA (Kd.Ab1 HCB.out B2.out)
 have out1 : ¬ (0 ≤ x ∧ x < Aa8 a ∧ 0 ≤ y ∧ y < Aa8 b) → oneM a b x y = (false, 1) := fun h => by unfold oneM; rw [if_pos ⟨HCLA.out, HCLB.out⟩, if_neg h]
 have OUT1 := zA out1
 clear out1
 obtain ⟨ta, eta⟩ : ∃ ta : Nat, ta = Aa8 a := ⟨_, rfl⟩
 obtain ⟨tb, etb⟩ : ∃ tb : Nat, tb = Aa8 b := ⟨_, rfl⟩
 have KA := Bf4 A1 c1 a w2 HCA2.out hca N1.out N3.out
 have KB : ∀ w3, Below w2.heap.size w2 w3 → _ := fun w3 h3 => Bf4 A2 c2 b w3 (Kd.Ab1 HCB2.out h3) hcb N2.out N4.out
 rw [← eta] at KA hta OUT1
 rw [← etb] at htb OUT1
 simp only [← etb] at KB
 have ETA := zA eta
 have ETB := zA etb
 have KA' := zA KA
 have KB' := zA KB
 clear KA KB eta etb
 by_cases hx0 : x < 0
 ·go_wp2_with fail
  go_ret2
  rw [OUT1.out (by omega)]
  exact ⟨rfl, B2.out⟩
 by_cases hx1 : (ta : Int) ≤ x
 ·go_wp2_with (go_at_call 60; first | ((with_reducible refine KA'.out.mono ?_); rintro e w3 ⟨rfl, hb3⟩; have B3 := zA (B2.out.trans (hb3.mono B2.out.size)); have HB3 := zA hb3; clear hb3) | ((with_reducible refine (KB'.out w3 HB3.out).mono ?_); rintro e w4 ⟨rfl, hb4⟩; have B4 := zA (B3.out.trans (hb4.mono B3.out.size)); clear hb4))
  go_ret2
  rw [OUT1.out (by omega)]
  exact ⟨rfl, B3.out⟩
 by_cases hy0 : y < 0
 ·go_wp2_with (go_at_call 60; first | ((with_reducible refine KA'.out.mono ?_); rintro e w3 ⟨rfl, hb3⟩; have B3 := zA (B2.out.trans (hb3.mono B2.out.size)); have HB3 := zA hb3; clear hb3) | ((with_reducible refine (KB'.out w3 HB3.out).mono ?_); rintro e w4 ⟨rfl, hb4⟩; have B4 := zA (B3.out.trans (hb4.mono B3.out.size)); clear hb4))
  go_ret2
  rw [OUT1.out (by omega)]
  exact ⟨rfl, B3.out⟩
 by_cases hy1 : (tb : Int) ≤ y
 ·go_wp2_with (go_at_call 60; first | ((with_reducible refine KA'.out.mono ?_); rintro e w3 ⟨rfl, hb3⟩; have B3 := zA (B2.out.trans (hb3.mono B2.out.size)); have HB3 := zA hb3; clear hb3) | ((with_reducible refine (KB'.out w3 HB3.out).mono ?_); rintro e w4 ⟨rfl, hb4⟩; have B4 := zA (B3.out.trans (hb4.mono B3.out.size)); clear hb4))
  go_ret2
  rw [OUT1.out (by omega)]
  exact ⟨rfl, B4.out⟩
 go_wp2_with (go_at_call 60; first | ((with_reducible refine KA'.out.mono ?_); rintro e w3 ⟨rfl, hb3⟩; have B3 := zA (B2.out.trans (hb3.mono B2.out.size)); have HB3 := zA hb3; clear hb3) | ((with_reducible refine (KB'.out w3 HB3.out).mono ?_); rintro e w4 ⟨rfl, hb4⟩; have B4 := zA (B3.out.trans (hb4.mono B3.out.size)); clear hb4))
 refine (Bp5 w4 (Av2 (HTAB.out.on B4.out) B4.out.size)).mono ?_
 rintro e w5 ⟨rfl, ht5, hb5⟩
 have T5 := zA ht5
 have B5 := zA (B4.out.trans (hb5.mono B4.out.size))
 have B45 := zA hb5
 clear ht5 hb5
 obtain ⟨B0, hB0⟩ : ∃ B0, B0 = w4.heap.size := ⟨_, rfl⟩
 rw [← hB0] at T5 B45 ⊢
 have HB0 := zA hB0
 have HWB0 : Aa2 (w.heap.size ≤ B0) := ⟨by rw [hB0]; exact B4.out.size⟩
 have HZ5 : Aa2 (B0 ≤ w5.heap.size) := ⟨by rw [hB0]; exact B45.out.size⟩
 clear hB0
 go_wp2_with fail
 obtain ⟨g1, i1, ha1, hm1, hl1, hg1⟩ := Ak3 9223372036854775807 a [] [] (by have h_ := N1.out; simp [Ab2]; omega)
 refine (Bf8 ⟨B0, B0 + 1, 228, [.bool true], [], B0, a, 9223372036854775807, w5⟩ _ _ A1 c1 T5.out (Or.inl rfl) HZ5.out (LR.of_C HCA.out (fun W hW => B5.out.trans (hW.bel.mono HWB0.out))) hca (HIA.out HCLA.out) HWA.out hla (by show Ab2 [] ≤ 1099511627776; simp [Ab2]) (by show ([] : List (List S123)).length ≤ 1099511627776; simp) ⟨by show (0 : Int) ≤ 9223372036854775807; decide, by show (9223372036854775807 : Int) ≤ 9223372036854775807; decide⟩).mono ?_
 intro e w6 hout
 unfold Ca1 at hout
 dsimp only at hout
 rw [ha1] at hout
 obtain ⟨v6, D6, vi, rfl, hai⟩ := hout
 have A6 := zA hai
 have F6 := zA hai.fr
 obtain ⟨Ai, ci, hvi⟩ := Kd.Aa9 hai.iv
 subst hvi
 have HA1 := zA ha1
 have HL1 := zA hl1
 clear hai ha1 hl1
 go_wp2_with fail
 obtain ⟨g2, i2, ha2, hm2, hl2, hg2⟩ := Ak3 9223372036854775807 b g1 [] (by have h_ := N1.out; have h2_ := N2.out; have h3_ : Ab2 [] = 0 := rfl; rw [h3_] at hm1; omega)
 have hB6 : B0 ≤ w6.heap.size := Nat.le_trans HZ5.out F6.out.bel.size
 refine (Bf8 ⟨B0, B0 + 1, 228, [.bool true], g1, B0, b, 9223372036854775807, w6⟩ _ _ A2 c2 (A6.out.tb.weak (fun _ _ => trivial)) (Or.inl rfl) hB6 (LR.of_C HCB.out (fun W hW => (B5.out.trans (F6.out.bel.mono HWB0.out)).trans (hW.bel.mono HWB0.out))) hcb (HIB.out HCLB.out) HWB.out hlb (by have h_ := N1.out; have h0_ : Aa8 a ≤ 1048576 := Nat.le_trans (Ab4 a) HWA.out; have h3_ : Ab2 [] = 0 := rfl; rw [h3_] at hm1; dsimp only; omega) (by simp at hg1; dsimp only; omega) ⟨by show (0 : Int) ≤ 9223372036854775807; decide, by show (9223372036854775807 : Int) ≤ 9223372036854775807; decide⟩).mono ?_
 intro e w7 hout
 unfold Ca1 at hout
 dsimp only at hout
 rw [ha2] at hout
 obtain ⟨v7, D7, vj, rfl, haj⟩ := hout
 have A7 := zA haj
 obtain ⟨Aj, cj, hvj⟩ := Kd.Aa9 haj.iv
 subst hvj
 have hri : Kd.R (Kd.int .i64) 3 w7 w5.heap.size (fun _ => True) (.slice Ai i1.length ci) i1 := fr_row haj.fr A6.out.iv ⟨_, _, A6.out.tb.box, by show (228 : Nat) ≠ 3; decide⟩ (fun cs t h => by obtain ⟨es, clock, hb, _⟩ := A6.out.tb.map; rw [hb] at h; cases h)
 obtain ⟨_, _, e1, hci, hCi⟩ := Kd.Ae4 hri
 injection e1 with e1 e2 e3
 subst e1 e3
 obtain ⟨_, _, e4, hcj, hCj⟩ := Kd.Ae4 haj.iv
 injection e4 with e4 e5 e6
 subst e4 e6
 have e0 : ([] : List Int).length = 0 := rfl
 have hli : (x : Int) < i1.length := by have h1_ := HL1.out; have h2_ := ETA.out; rw [e0] at h1_; omega
 have hlj : (y : Int) < i2.length := by have h2_ := ETB.out; rw [e0] at hl2; omega
 obtain ⟨ai, ei, hxi⟩ := Kd.Au2 hCi x (by omega) hli
 obtain ⟨aj, ej, hyj⟩ := Kd.Au2 hCj y (by omega) hlj
 subst ei ej
 have hone : oneM a b x y = (rd i1 x == rd i2 y, 0) := by
  unfold oneM Aq8
  rw [if_pos ⟨HCLA.out, HCLB.out⟩, if_pos (by have h1_ := ETA.out; have h2_ := ETB.out; omega), HA1.out]
  dsimp only
  rw [ha2]
 have B7 : Aa2 (Below w.heap.size w w7) := ⟨(B5.out.trans (F6.out.bel.mono HWB0.out)).trans (haj.fr.bel.mono HWB0.out)⟩
 have HX7 := zA (And.intro hxi hyj)
 have HONE := zA hone
 have hx' : 0 ≤ x := by omega
 have hy' : 0 ≤ y := by omega
 obtain ⟨li, hlie⟩ : ∃ li : Nat, li = i1.length := ⟨_, rfl⟩
 obtain ⟨lj, hlje⟩ : ∃ lj : Nat, lj = i2.length := ⟨_, rfl⟩
 rw [← hlie] at hli hci ⊢
 rw [← hlje] at hlj hcj ⊢
 obtain ⟨p1, hp1⟩ : ∃ p, p = rd i1 x := ⟨_, rfl⟩
 obtain ⟨p2, hp2⟩ : ∃ p, p = rd i2 y := ⟨_, rfl⟩
 rw [← hp1, ← hp2] at HONE HX7
 clear haj hri hCi hCj hxi hyj hone hm1 hg1 hm2 hl2 hg2 ha2 e0 hB6 hlie hlje hp1 hp2 e2 e5 hx0 hx1 hy0 hy1
 go_wp2_with fail
 refine Ab3 (n := 11) (S := fun w' => w'.cell? (ai.add x.toNat) = some (.int .i64 p1) ∧ w'.cell? (aj.add y.toNat) = some (.int .i64 p2)) (ds := []) (bm_ 11 0) (by kernel_rfl) rfl rfl ⟨HX7.out.1, HX7.out.2⟩ (fun hHeld => ?_)
 refine pz_ 0 73 11 1 ?_
 refine pz_ 1 74 11 3 ?_
 refine pz_ 2 75 11 7 ?_
 refine pz_ 4 77 11 23 ?_
 refine pz_ 5 78 11 55 ?_
 refine pz_ 6 79 11 119 ?_
 refine tz_ 3 76 11 127 hHeld ?_
 refine tz_ 7 80 11 255 hHeld ?_
 refine pz_ 8 81 11 511 ?_
 refine pz_ 9 8 11 1023 ?_
 refine pz_ 10 9 11 2047 ?_
 refine dz_ ?_

 go_wp2_with fail
 go_ret2
 rw [HONE.out]
 exact ⟨rfl, B7.out.drew⟩
theorem addTo_le (most : Int) (l : List S132) : ∀ (gs gs' : List (List S123)) (ids ids' : List Int), Ae1 most (gs, ids) l = some (gs', ids') → Ab2 gs' ≤ Ab2 gs + Aa8 l ∧ gs'.length ≤ gs.length + l.length ∧ ids'.length = ids.length + Aa8 l := by
 induction l with
 | nil =>
  intro gs gs' ids ids' h
  simp only [Ae1, Option.some.injEq, Prod.mk.injEq] at h
  obtain ⟨rfl, rfl⟩ := h
  exact ⟨by simp [Aa8], by simp, by simp [Aa8]⟩
 | cons r l ih =>
  intro gs gs' ids ids' h
  have ht : Aa8 (r :: l) = r.f0.length + Aa8 l := by simp [Aa8]
  simp only [Ae1] at h
  cases hs : Ad4 most (gs, ids) r with
  | none => rw [hs] at h; cases h
  | some st =>
   obtain ⟨gs1, ids1⟩ := st
   rw [hs] at h
   simp only [Option.bind_some] at h
   obtain ⟨h1, h2, h3⟩ := ih gs1 gs' ids1 ids' h
   unfold Ad4 at hs
   dsimp only at hs
   cases hf : Ak9 gs (ownG ids r) with
   | some i =>
    rw [hf] at hs
    simp only [Option.some.injEq, Prod.mk.injEq] at hs
    obtain ⟨rfl, rfl⟩ := hs
    rw [List.length_append, Ac4, Ac1] at h3
    exact ⟨by omega, by simp; omega, by omega⟩
   | none =>
    rw [hf] at hs
    dsimp only at hs
    split at hs
    ·cases hs
    ·simp only [Option.some.injEq, Prod.mk.injEq] at hs
     obtain ⟨rfl, rfl⟩ := hs
     rw [Ak0, Ac1] at h1
     rw [List.length_append, Ac4, Ac1] at h3
     rw [List.length_append, List.length_singleton] at h2
     exact ⟨by omega, by simp; omega, by omega⟩
theorem Bu5 {a b : List S132} {x y : Int} (ca : Clo a) (cb : Clo b) (h : 0 ≤ x ∧ x < Aa8 a ∧ 0 ≤ y ∧ y < Aa8 b) : oneM a b x y = (rd (Aq8 a b).1 x == rd (Aq8 a b).2 y, 0) := by
 unfold oneM
 rw [if_pos ⟨ca, cb⟩, if_pos h]
theorem Bd4 {l : List S132} (ht : Aa8 l ≤ 1048576) : ∃ g1 i1, Ae1 9223372036854775807 ([], []) l = some (g1, i1) ∧ Aq8 l l = (i1, i1) := by
 obtain ⟨g1, i1, h1, _, _, _⟩ := Ak3 9223372036854775807 l [] [] (by simp [Ab2]; omega)
 have h2 := Bx0 9223372036854775807 9223372036854775807 l [] g1 i1 h1 Dist.nil
 refine ⟨g1, i1, h1, ?_⟩
 unfold Aq8
 rw [h1]
 dsimp only
 rw [h2]
theorem Cc1 (A1 : Option Addr) (c1 : Nat) (a : List S132) (A2 : Option Addr) (c2 : Nat) (b : List S132) (x y : Int) (w : World) (ha : LA w A1 c1 a) (hb : LA w A2 c2 b) (htab : Lib.TabBelow Tryz.prog w.heap.size w "internal/strconv.uint64pow10" .u64 Lib.pow10Tab) :
  Calls Tryz.prog 165 #[.slice A1 a.length c1, .slice A2 b.length c2, .int .i64 x, .int .i64 y] w fun e w' => e = .returned (.tuple #[.bool (oneM a b x y).1, .int .i64 (oneM a b x y).2]) ∧ Below w.heap.size w w' :=
 Cg8 A1 c1 a A2 c2 b x y w ha.C ha.cap hb.C hb.cap (Bc0 (by have := ha.w; omega)) (Bc0 (by have := hb.w; omega)) (Bc4 (by have := ha.w; omega) ha.inn) (Bc4 (by have := hb.w; omega) hb.inn) (by have := ha.w; omega) (by have := hb.w; omega) (by have := ha.w; omega) (by have := hb.w; omega) htab
theorem Bi1 (A : Option Addr) (c : Nat) (l : List S132) (x y : Int) (w : World) (hl : LA w A c l) (htab : Lib.TabBelow Tryz.prog w.heap.size w "internal/strconv.uint64pow10" .u64 Lib.pow10Tab) (b : Bool) (k : Int) (hone : oneM l l x y = (b, k)) :
  Calls Tryz.prog 152 #[.slice A l.length c, .int .i64 x, .int .i64 y] w fun e w' => e = .returned (.tuple #[.bool b, .int .i64 k]) ∧ Below w.heap.size w w' := by
 have K := zA (Cc1 A c l A c l x y w hl hl htab)
 rw [hone] at K
 clear hl htab hone
 go_enter Tryz.func152, Tryz.ntmps152
 go_wp2_with fail
 refine K.out.mono ?_
 rintro e w1 ⟨rfl, hb1⟩
 have HB1 := zA hb1
 clear hb1 K
 go_wp2_with fail
 go_ret2
 exact ⟨rfl, HB1.out⟩
structure RA (B g : Nat) (gs : List (List S123)) (v : Value) (w : World) (vi : Value) (ids : List Int) (W : World) : Prop where
 t : R6 B g (fun k => True ∧ some k ≠ vi.ownBlock) gs v W
 iv : Kd.R (Kd.int .i64) 3 W w.heap.size (fun _ => True) vi ids
 fr : FrR B g w W
section
variable {B g : Nat} {gs : List (List S123)} {v vi vi' : Value} {w W W' : World} {ids ids' : List Int}
theorem RA.app (h : RA B g gs v w vi ids W) (hr : Kd.R (Kd.int .i64) 3 W' w.heap.size (fun _ => True) vi' ids') (hg : W.grownBy W' vi.ownBlock) (hat : vi'.ownBlock = vi.ownBlock ∨ ∃ b, vi'.ownBlock = some b ∧ W.heap.size ≤ b) : RA B g gs v w vi' ids' W' := by
 have t1 := h.t.grown h.iv (by decide) hg (fun k hk => hk.2)
 exact ⟨⟨t1.box, Kd.Af7 (Kd.Ay0 (ok := fun _ => True) h.t.row hg hat) (fun k hk => hk), t1.hg⟩, hr, h.fr.own h.iv hg⟩
end
theorem oneF_bd {gs : List (List S123)} {o : List S123} : 0 ≤ oneF gs o ∧ oneF gs o ≤ Ab2 gs := by
 unfold oneF
 cases h : Ak9 gs o with
 | some i =>
  obtain ⟨x, hx, hk⟩ := As8 h
  have := As7 gs i x hx
  dsimp only
  omega
 | none => exact ⟨Aj3 gs, Int.le_refl _⟩
theorem step_one {most : Int} {gs gs' : List (List S123)} {ids ids' : List Int} {r : S132} (h : Ad4 most (gs, ids) r = some (gs', ids')) (hm : Ab2 gs ≤ most) : gs' = oneG gs (ownG ids r) ∧ ids' = ids ++ Ac8 (oneF gs (ownG ids r)) r.f0.length ∧ Ab2 gs' ≤ most ∧ gs'.length ≤ gs.length + 1 ∧ Ab2 gs' ≤ Ab2 gs + r.f0.length ∧ ∀ x ∈ gs', x ∈ gs ∨ x = ownG ids r := by
 unfold Ad4 at h
 dsimp only at h
 cases hf : Ak9 gs (ownG ids r) with
 | some i =>
  rw [hf] at h
  simp only [Option.some.injEq, Prod.mk.injEq] at h
  obtain ⟨rfl, rfl⟩ := h
  rw [Bo9 hf, Bp1 hf, Ac1]
  exact ⟨rfl, rfl, hm, by omega, by omega, fun x hx => .inl hx⟩
 | none =>
  rw [hf] at h
  dsimp only at h
  split at h
  ·cases h
  ·rename_i hmm
   simp only [Option.some.injEq, Prod.mk.injEq] at h
   obtain ⟨rfl, rfl⟩ := h
   rw [Bp0 hf, Bp2 hf, Ak0, Ac1]
   rw [Ac1] at hmm
   refine ⟨rfl, rfl, by omega, by simp, by omega, fun x hx => ?_⟩
   rcases List.mem_append.1 hx with hx | hx
   ·exact .inl hx
   ·exact .inr (List.mem_singleton.1 hx)
theorem addTo_at {most : Int} {st st' : List (List S123) × List Int} {l : List S132} (h : Ae1 most st l = some st') (j : Nat) : ∃ st1, Ae1 most st (l.take j) = some st1 := by
 cases hx : Ae1 most st (l.take j) with
 | some st1 => exact ⟨st1, rfl⟩
 | none => rw [Bj6 most st l j hx] at h; cases h
def AddR (B g : Nat) (gs' : List (List S123)) (ids' : List Int) (w : World) (e : Ending) (w' : World) : Prop :=
 ∃ v' vi, e = .returned (.tuple #[vi, .int .i64 (-1)]) ∧ RA B g gs' v' w vi ids' w'
set_option maxHeartbeats 8000000 in
theorem Bc9 (B g : Nat) (gs0 : List (List S123)) (v0 : Value) (A : Option Addr) (c : Nat) (l : List S132) (most : Int) (gs' : List (List S123)) (ids' : List Int) (w : World) (hT : R6 B g (fun _ => True) gs0 v0 w) (hB : B ≤ w.heap.size)
  (hL : LR (fun W => FrR B g w W) A l) (hcap : l.length ≤ c) (hin : ∀ r ∈ l, ∀ s ∈ r.f0, RIn s) (hw : wL l ≤ 1048576) (hl : l.length ≤ 1048576) (hm0 : Ab2 gs0 ≤ 549755813888) (hg0 : gs0.length ≤ 549755813888) (hwg : ∀ x ∈ gs0, wG x ≤ 1048576) (hmm : Ab2 gs0 ≤ most) (h : Ae1 most (gs0, []) l = some (gs', ids')) :
  Calls Tryz.prog 200 #[.pointer (some ⟨g, 0, none⟩), .slice A l.length c, .int .i64 most] w (AddR B g gs' ids' w) := by
 have HB := zA hB
 have HLR := zA hL
 have HIN := zA hin
 have HW := zA hw
 have HM0 := zA (And.intro hm0 hg0)
 have HH := zA h
 have TS : Aa2 (RA B g gs0 v0 w (.slice none 0 0) [] w) := ⟨hT.weak (fun k _ => ⟨trivial, by simp [Value.ownBlock]⟩), Kd.Aj9 _ _ _ _ _, FrR.refl hB⟩
 have WG0 := zA hwg
 have HMM := zA hmm
 clear hT hB hL hin hw hm0 hg0 hwg h hmm
 go_enter Tryz.func200, Tryz.ntmps200
 go_wp2_with fail
 go_loopw [8, 9] (fun vi i W => ∃ (j : Nat) (gs : List (List S123)) (v : Value) (ids : List Int), i = .int .i64 j ∧ j ≤ l.length ∧ Ae1 most (gs0, []) (l.take j) = some (gs, ids) ∧ RA B g gs v w vi ids W ∧ AB2 (Ab2 gs0) (Aa8 (l.take j)) (gs, ids) ∧ gs.length ≤ gs0.length + j ∧ (∀ x ∈ gs, wG x ≤ 1048576) ∧ Ab2 gs ≤ most) (fun _ i _ => l.length - (intOf i).toNat)
 case atStart => exact ⟨0, gs0, v0, [], rfl, Nat.zero_le _, rfl, TS.out, AB2.start gs0, Nat.le_refl _, WG0.out, HMM.out⟩
 case round =>
  clear TS
  obtain ⟨j, gs, v, ids, rfl, hj, hst, hRA, hab, hgl, hwg, hmm⟩ := hrel
  have HST := zA hst
  have HAB := zA hab
  have HGL := zA hgl
  have A0 := zA hRA
  have HWG := zA hwg
  have HMX := zA hmm
  clear hst hab hgl hRA hwg hmm
  by_cases hlt : j < l.length
  ·obtain ⟨wo, rfl⟩ : ∃ wo : World, wo = wr := ⟨_, rfl⟩
   obtain ⟨r, hr⟩ : ∃ r, l[j]? = some r := ⟨_, List.getElem?_eq_getElem hlt⟩
   obtain ⟨hd, hh⟩ := HLR.out
   obtain ⟨ad, rfl, hall⟩ := hh j r hr
   obtain ⟨⟨Ar, cr⟩, hrr⟩ : ∃ p : Option Addr × Nat, p = hd j := ⟨_, rfl⟩
   rw [← hrr] at hall
   dsimp only at hall
   obtain ⟨hc0, hc1, hc2, hc3⟩ := hall wo A0.out.fr
   have HR := zA hr
   have HALL := zA hall
   have hrl : r.f0.length ≤ 1048576 := by have h1 := Ab7 l j r hr; have h2 := Ab4 l; have h3 := HW.out; omega
   obtain ⟨⟨gs2, ids2⟩, hs2⟩ := addTo_at HH.out (j + 1)
   have hs3 := hs2
   rw [Ao6 most _ l j r hr, HST.out] at hs3
   have HS2 := zA hs2
   obtain ⟨eg2, ei2, hm2, hl2, hn2, hx2⟩ := step_one (show Ad4 most (gs, ids) r = some (gs2, ids2) from hs3) HMX.out
   have WR : Aa2 (wG r.f0 ≤ 1048576) := ⟨Nat.le_trans (Ba0 (List.mem_of_getElem? hr)) HW.out⟩
   have WG2 : Aa2 (∀ x ∈ gs2, wG x ≤ 1048576) := ⟨fun x hx => by rcases hx2 x hx with h | h; exact HWG.out x h; rw [h, Bx7]; exact WR.out⟩
   have ob := oneF_bd (gs := gs) (o := ownG ids r)
   have hab := HAB.out
   have hmn : Ab2 gs ≤ 549755813888 + 1048576 := by have h0 := hab.many; dsimp only at h0; have h1 := Ab7 l j r hr; have h2 := Ab4 l; have h3 := HW.out; have h4 := HM0.out.1; omega
   have hgn : gs.length ≤ 549755813888 + 1048576 := by have h0 := HGL.out; have h4 := HM0.out.2; omega
   have hidl : ids.length ≤ 1048576 := by have h0 := hab.len; dsimp only at h0; have h1 := Ab7 l j r hr; have h2 := Ab4 l; have h3 := HW.out; omega
   have HMG2 : Aa2 (Ab2 gs2 ≤ most) := ⟨hm2⟩
   have AB3 : Aa2 (AB2 (Ab2 gs0) (Aa8 (l.take (j + 1))) (gs2, ids2)) := ⟨by rw [Ad8 l j r hr, ei2]; have h0 := hab.many; dsimp only at h0; exact hab.step ob.1 (by omega) (by push_cast; omega)⟩
   have GL2 : Aa2 (gs2.length ≤ gs0.length + (j + 1)) := ⟨by have := HGL.out; omega⟩
   have EG2 := zA eg2
   have EI2 := zA ei2
   have OB := zA (And.intro ob.1 (Int.le_trans ob.2 hmn))
   have HN := zA (And.intro hmn hgn)
   have HIL := zA hidl
   obtain ⟨Ai, ci, hvi, hci, hCi⟩ := Kd.Ae4 A0.out.iv
   subst hvi
   clear hCi hr hall hc3 hh hs2 hs3 eg2 ei2 hm2 hl2 hn2 hx2 ob hab hmn hgn hidl hrr
   have jl0 : (0 : Int) ≤ (j : Int) := Int.natCast_nonneg j
   have jl1 : (j : Int) < (l.length : Int) := by omega
   go_wp2_with fail
   refine (Bt6 B g (fun k => True ∧ some k ≠ (Value.slice Ai ids.length ci).ownBlock) gs v Ar cr r Ai ci ids wo A0.out.t A0.out.fr.zz (fun W hW => (HALL.out W (A0.out.fr.trans hW)).2.2.2) hc2 (fun W hW => by obtain ⟨_, _, e1, _, h1⟩ := Kd.Ae4 (hW.row A0.out.iv ⟨_, _, A0.out.t.box, by show (263 : Nat) ≠ 3; decide⟩); injection e1 with e1 e2 e3; subst e1; exact h1) hci (HIN.out r (List.mem_of_getElem? HR.out)) WR.out (by have := HIL.out; omega) (by have := HN.out.1; omega) (by have := HN.out.2; omega) HWG.out).mono ?_
   rintro e w3 ⟨v2, rfl, ht3, hf3⟩
   rw [← EG2.out] at ht3
   have hlt3 : ∀ k, (Value.slice Ai ids.length ci).ownBlock = some k → k < wo.heap.size := fun k hk => by obtain ⟨_, in_, ho_, _⟩ := A0.out.iv; exact Am3 ho_ k hk
   have A3 : Aa2 (RA B g gs2 v2 w (.slice Ai ids.length ci) ids w3) := ⟨ht3.weak (fun k hk => ⟨trivial, by rcases hk with hk | hk; exact hk.2; intro e_; have := hlt3 k e_.symm; omega⟩), hf3.row A0.out.iv ⟨_, _, A0.out.t.box, by show (263 : Nat) ≠ 3; decide⟩, A0.out.fr.trans hf3⟩
   obtain ⟨f0, hf0⟩ : ∃ f0, f0 = oneF gs (ownG ids r) := ⟨_, rfl⟩
   rw [← hf0]
   have HF0 := zA hf0
   have hb0 : 0 ≤ f0 := by rw [hf0]; exact OB.out.1
   have hb1 : f0 ≤ 549755813888 + 1048576 := by rw [hf0]; exact OB.out.2
   obtain ⟨m2, hm2⟩ : ∃ m2, m2 = Ab2 gs2 := ⟨_, rfl⟩
   have t1 : w3.cell? ⟨g, 1, none⟩ = some (.int .i64 m2) := by rw [hm2]; exact (Aa0 ht3.box 1).trans rfl
   have hmx : m2 ≤ most := by rw [hm2]; exact HMG2.out
   clear hf0 hm2 ht3 hf3 hlt3 hc0 hc1 hci
   go_wp2_with fail
   clear t1 hmx
   go_loopw [8, 11] (fun vi i W => ∃ (k : Nat), i = .int .i64 k ∧ k ≤ r.f0.length ∧ RA B g gs2 v2 w vi (ids ++ Ac8 f0 k) W) (fun _ i _ => r.f0.length - (intOf i).toNat)
   case atStart => exact ⟨0, rfl, Nat.zero_le _, by simpa [Ac8] using A3.out⟩
   case round =>
    clear A3
    obtain ⟨k, rfl, hk, hRA⟩ := hrel
    have I1 := zA hRA
    clear hRA
    obtain ⟨hc0, hc1, _, _⟩ := HALL.out wr I1.out.fr
    clear hc1
    by_cases hlk : k < r.f0.length
    ·obtain ⟨li, hli⟩ : ∃ li_ : List Int, li_ = ids ++ Ac8 f0 k := ⟨_, rfl⟩
     rw [← hli] at I1
     have HLI := zA hli
     have hil : li.length ≤ 4194304 := by rw [hli, List.length_append, Ac4]; have := HIL.out; omega
     clear hli
     obtain ⟨Aj, cj, hvj⟩ := Kd.Aa9 I1.out.iv
     subst hvj
     have hwf : wrap64 (f0 + (k : Int)) = f0 + k := by unfold wrap64; omega
     have HZW : Aa2 (w.heap.size ≤ wr.heap.size) := ⟨I1.out.fr.bel.size⟩
     go_wp2_with (at_builtin; refine Kd.Af9 (Kd.int .i64) (w0 := wr) w.heap.size rfl (.tmp 42) (.tmp 46) 23 3 (.int .i64 0) 8 rfl Tryz.underlying23 Ax8 rfl (by decide) (by omega) (.slice Aj li.length cj) li (f0 + k) [.int .i64 (f0 + k)] (fun _ => True) (fun _ => False) rfl rfl rfl (fun _ hk_ => hk_.elim) (fun _ _ => trivial) I1.out.iv ⟨rfl, rfl, rfl, Nat.le_refl _, fun _ _ => rfl⟩ HZW.out (by omega) ?_; intro v5 w4 ho _ hg hat_; have I4 := zA (I1.out.app ho hg hat_); clear ho hg hat_)
     go_roundw
     case rel => exact ⟨k + 1, by go_num, by omega, by have e_ : ids ++ Ac8 f0 (k + 1) = li ++ [f0 + k] := (by rw [Ar5, HLI.out, List.append_assoc]); rw [e_]; exact I4.out⟩
     case measure => simp [intOf]; omega
    ·obtain rfl : k = r.f0.length := by omega
     clear hk hlk
     go_wp2_with fail
     go_roundw
     case rel => exact ⟨j + 1, gs2, v2, ids2, by go_num, by omega, HS2.out, by rw [EI2.out, ← HF0.out]; exact I1.out, AB3.out, GL2.out, WG2.out, HMG2.out⟩
     case measure => simp [intOf]; omega
  ·obtain rfl : j = l.length := by omega
   have e0 := HST.out
   rw [List.take_length, HH.out] at e0
   simp only [Option.some.injEq, Prod.mk.injEq] at e0
   obtain ⟨e1, e2⟩ := e0
   subst e1 e2
   clear hj hlt
   go_wp2_with fail
   go_ret2
   exact ⟨v, _, rfl, A0.out⟩
section
variable {w w' : World}
theorem At8 (l m : List S39) : Ad3 (l ++ m) = Ad3 l ++ Ad3 m := by simp [Ad3]
set_option maxHeartbeats 4000000 in
theorem Ar6 {A : Option Addr} {c : Nat} {l : List S39} (hC : Kd.C k39 w A l.length l) (hl : l.length ≤ 1048576) :
  Calls Tryz.prog 148 #[.slice A l.length c] w fun e w' => ∃ u, e = .returned u ∧ Kd.R (Kd.int .i64) 3  w' w.heap.size (fun _ => True) u (Ad3 l) ∧ Below w.heap.size w w' := by
 have HC := zA hC
 have HL := zA hl
 clear hC hl
 go_enter Tryz.func148, Tryz.ntmps148
 go_wp2_with fail
 go_loopw [3, 4] (fun u i W => ∃ j : Nat, i = .int .i64 j ∧ j ≤ l.length ∧ Kd.R (Kd.int .i64) 3  W w.heap.size (fun _ => True) u (Ad3 (l.take j)) ∧ Below w.heap.size w W) (fun _ i _ => l.length - (intOf i).toNat)
 case atStart => exact ⟨0, rfl, Nat.zero_le _, Kd.Aj9 _ _ _ _ _, Below.refl _ _⟩
 case round =>
  obtain ⟨j, rfl, hj, hr, hb⟩ := hrel
  have Rr := zA hr
  have B := zA hb
  by_cases hlt : j < l.length
  ·obtain ⟨x, hx⟩ : ∃ x, l[j]? = some x := ⟨_, List.getElem?_eq_getElem hlt⟩
   obtain ⟨ad, rfl, x0, x1, x2⟩ := Ce6 (Kd.Ab1 HC.out hb) hx
   obtain ⟨hs, hhs⟩ : ∃ hs, hs = Ad3 (l.take j) := ⟨_, rfl⟩
   rw [← hhs] at hr Rr
   have hsl : hs.length ≤ j := by rw [hhs]; exact Nat.le_trans (Ah0 _) (by rw [List.length_take]; omega)
   obtain ⟨Aj, cj, rfl⟩ := Kd.Aa9 hr
   have HS : Aa2 (Ad3 (l.take (j + 1)) = hs ++ (if x.f0 = 5 then [x.f2] else [])) := ⟨by rw [List.take_add_one, hx, Option.toList_some, At8, ← hhs, Br2]; rfl⟩
   have hl1 := HL.out
   have hlt2 : (j : Int) < (l.length : Int) := by omega
   have HSL := zA hsl
   clear hr hb x1 hx hhs hsl
   by_cases h5 : x.f0 = 5
   ·have g5 : (x.f0 == 5) = true := by simp [h5]
    have HS2 : Aa2 (Ad3 (l.take (j + 1)) = hs ++ [x.f2]) := ⟨by rw [HS.out, if_pos h5]⟩
    clear h5
    go_wp2_with (at_builtin; refine Kd.Af9 (Kd.int .i64) (w0 := w) w.heap.size rfl (.tmp 17) (.tmp 23) 23 3 (.int .i64 0) 8 rfl Tryz.underlying23 Ax8 rfl (by decide) (by decide) (.slice Aj hs.length cj) hs x.f2 [.int .i64 x.f2] (fun _ => True) (fun _ => False) rfl rfl rfl (fun _ hk_ => hk_.elim) (fun _ _ => trivial) Rr.out B.out B.out.size (by have := HSL.out; omega) ?_; intro v1 w1 hr1 hb1 _ _; have R1 := zA hr1; have B1 := zA hb1; clear hr1 hb1)
    go_roundw
    case rel => exact ⟨j + 1, by go_num, hlt, by rw [HS2.out]; exact R1.out, B1.out⟩
    case measure => simp [intOf]; omega
   ·have g5 : (x.f0 == 5) = false := by simp [h5]
    have HS2 : Aa2 (Ad3 (l.take (j + 1)) = hs) := ⟨by rw [HS.out, if_neg h5, List.append_nil]⟩
    clear h5
    go_wp2_with fail
    go_roundw
    case rel => exact ⟨j + 1, by go_num, hlt, by rw [HS2.out]; exact Rr.out, B.out⟩
    case measure => simp [intOf]; omega
  ·obtain rfl : j = l.length := by omega
   clear hlt hr hb
   go_wp2_with fail
   go_ret
   exact ⟨_, rfl, by have h_ := Rr.out; rw [List.take_length] at h_; exact h_, B.out⟩
structure AW (w : World) (sc : Array Value) (u : Value) (l : List Int) (W : World) : Prop where
 bel : Below w.heap.size w W
 src : W.heap[w.heap.size]? = some (.cells sc 123 (0, 0))
 row : Kd.R (Kd.int .i64) 3  W w.heap.size (fun _ => True) u l
theorem AW.below {sc : Array Value} {u : Value} {l : List Int} {W W1 : World} (h : AW w sc u l W) (hb : Below W.heap.size W W1) : AW w sc u l W1 := ⟨h.bel.trans (hb.mono h.bel.size), Aa3 h.src hb, Kd.Ac5 h.row hb⟩
theorem AW.app {sc : Array Value} {u u1 : Value} {l ys : List Int} {W W1 : World} (h : AW w sc u l W) (hr : Kd.R (Kd.int .i64) 3  W1 w.heap.size (fun _ => True) u1 (l ++ ys)) (hb : Below w.heap.size w W1) (hg : W.grownBy W1 u.ownBlock) : AW w sc u1 (l ++ ys) W1 := ⟨hb, (hg.block _ (Ac0 h.src) (Kd.R_ne h.row h.src (by decide))).trans h.src, hr⟩
theorem vone_C (W : World) (x : S39) : Kd.C k39 (W.alloc (.cells #[.int .i64 x.f0, .bool x.f1, .int .i64 x.f2] 39)) (some ⟨W.heap.size, 0, none⟩) 1 [x] := by
 refine ⟨rfl, by decide, fun _ => ⟨_, rfl, fun j p hj => ?_⟩⟩
 obtain rfl : j = 0 := by have := (List.getElem?_eq_some_iff.1 hj).1; simp at this; omega
 simp only [List.getElem?_cons_zero, Option.some.injEq] at hj
 subst hj
 refine ⟨[.int .i64 x.f0, .bool x.f1, .int .i64 x.f2], rfl, Bq9 _ x, fun i u hu => ?_⟩
 rw [show (⟨W.heap.size, 0, none⟩ : Addr).add (0 * (k39).sz + i) = ⟨W.heap.size, i, none⟩ by rw [Nat.zero_mul, Nat.zero_add]; unfold Addr.add; simp; (try (intro h; omega)), Aa0 (Aa6 W _) i]
 simpa using hu
set_option maxHeartbeats 8000000 in
theorem Cd4 {S1 : Option Addr} {Sc1 : Nat} {S3 : Option Addr} {Sc3 : Nat} {S4 : Option Addr} {Sc4 : Nat} {S5 : Option Addr} {Sc5 : Nat} {s : S123} (hs : Bm8 w S1 Sc1 S3 Sc3 S4 Sc4 S5 Sc5 s) :
  Calls Tryz.prog 112 #[.agg #[.bool s.f0, .slice S1 s.f1.length Sc1, .int .i64 s.f2.f0, .slice S3 s.f2.f1.length Sc3, .slice S4 s.f2.f2.length Sc4, .slice S5 s.f2.f3.length Sc5]] w fun e w' => ∃ u, e = .returned u ∧ Kd.R (Kd.int .i64) 3  w' w.heap.size (fun _ => True) u (Br8 s) ∧ Below w.heap.size w w' := by
 obtain ⟨W, hW⟩ : ∃ W, W = w.alloc (.cells #[.bool s.f0, .slice S1 s.f1.length Sc1, .int .i64 s.f2.f0, .slice S3 s.f2.f1.length Sc3, .slice S4 s.f2.f2.length Sc4, .slice S5 s.f2.f3.length Sc5] 123) := ⟨_, rfl⟩
 have b1 : Below w.heap.size w W := by rw [hW]; exact bz_
 have q0 : W.heap[w.heap.size]? = some (.cells #[.bool s.f0, .slice S1 s.f1.length Sc1, .int .i64 s.f2.f0, .slice S3 s.f2.f1.length Sc3, .slice S4 s.f2.f2.length Sc4, .slice S5 s.f2.f3.length Sc5] 123 (0, 0)) := by rw [hW]; exact Aa6 w _
 have HS := zA hs
 obtain ⟨n5, hn5⟩ : ∃ n, n = s.f2.f3.length := ⟨_, rfl⟩
 have HN := zA hn5
 have HL : Aa2 (s.f1.length ≤ 1048576 ∧ s.f2.f1.length ≤ 1048576 ∧ s.f2.f2.length ≤ 1048576 ∧ n5 ≤ 1048576) := ⟨by have h_ := hs.w_; unfold wS at h_; omega⟩
 have z1 : W.cell? ⟨w.heap.size, 1, none⟩ = some (.slice S1 s.f1.length Sc1) := bc_ q0 1
 obtain ⟨u0, hu0, rn⟩ : ∃ u0 : Value, u0 = .slice none 0 0 ∧ Kd.R (Kd.int .i64) 3  W w.heap.size (fun _ => True) u0 ([] : List Int) := ⟨_, rfl, Kd.Aj9 _ _ _ _ _⟩
 have A0 : Aa2 (AW w #[.bool s.f0, .slice S1 s.f1.length Sc1, .int .i64 s.f2.f0, .slice S3 s.f2.f1.length Sc3, .slice S4 s.f2.f2.length Sc4, .slice S5 s.f2.f3.length Sc5] u0 [] W) := ⟨⟨b1, q0, rn⟩⟩
 clear hs b1 q0 rn hn5
 go_enter Tryz.func112, Tryz.ntmps112
 go_upto_region 2 with fail
 rw [← hW, ← hu0]
 clear hW hu0
 go_wp2_with (at_builtin; refine Kd.Ah2 (Kd.int .i64) (w0 := w) w.heap.size rfl (.tmp 5) (.tmp 7) 23 3 (.int .i64 0) 8 rfl Tryz.underlying23 Ax8 rfl (by decide) (by omega) u0 ([] : List Int) s.f1 _ _ _ (fun _ => True) (fun _ => False) rfl rfl A0.out.row (Kd.Ab1 HS.out.C1 A0.out.bel) (fun _ _ h => h) (fun _ h => h.elim) (fun _ _ => trivial) A0.out.bel A0.out.bel.size (by have := HL.out.1; show (0 + s.f1.length) * 8 ≤ 140737488355328; omega) ?_; intro v1 w1 hr1 hb1 hg1 _; have A1 := zA (show AW w #[.bool s.f0, .slice S1 s.f1.length Sc1, .int .i64 s.f2.f0, .slice S3 s.f2.f1.length Sc3, .slice S4 s.f2.f2.length Sc4, .slice S5 s.f2.f3.length Sc5] v1 s.f1 w1 from A0.out.app hr1 hb1 hg1); have z3 : w1.cell? ⟨w.heap.size, 3, none⟩ = some (.slice S3 s.f2.f1.length Sc3) := bc_ A1.out.src 3; clear hr1 hb1 hg1)
 refine (Ar6 (Kd.Ab1 HS.out.C3 A1.out.bel) HL.out.2.1).mono ?_
 rintro e w2 ⟨u2, rfl, hr2, hb2⟩
 have A2 := zA (A1.out.below hb2)
 obtain ⟨h2, hh2⟩ : ∃ h, h = Ad3 s.f2.f1 := ⟨_, rfl⟩
 have L2 : Aa2 (h2.length ≤ 1048576) := ⟨by rw [hh2]; exact Nat.le_trans (Ah0 _) HL.out.2.1⟩
 rw [← hh2] at hr2
 have E2 := zA hh2
 obtain ⟨D2, d2, rfl, _, hdC⟩ := Kd.Ae4 hr2
 have C2 := zA hdC
 clear hr2 hb2 hdC hh2 z3
 go_wp2_with (at_builtin; refine Kd.Ah2 (Kd.int .i64) (w0 := w) w.heap.size rfl (.tmp 9) (.tmp 13) 23 3 (.int .i64 0) 8 rfl Tryz.underlying23 Ax8 rfl (by decide) (by omega) v1 (s.f1) (h2) _ _ _ (fun _ => True) (fun _ => False) rfl rfl A2.out.row C2.out (fun _ _ h => h) (fun _ h => h.elim) (fun _ _ => trivial) A2.out.bel A2.out.bel.size (by have := HL.out.1; have := L2.out; omega) ?_; intro v3 w3 hr1 hb1 hg1 _; have A3 := zA (A2.out.app hr1 hb1 hg1); have z4 : w3.cell? ⟨w.heap.size, 4, none⟩ = some (.slice S4 s.f2.f2.length Sc4) := bc_ A3.out.src 4; clear hr1 hb1 hg1)
 refine (Ar6 (Kd.Ab1 HS.out.C4 A3.out.bel) HL.out.2.2.1).mono ?_
 rintro e w4 ⟨u4, rfl, hr2, hb2⟩
 have A4 := zA (A3.out.below hb2)
 obtain ⟨h4, hh2⟩ : ∃ h, h = Ad3 s.f2.f2 := ⟨_, rfl⟩
 have L4 : Aa2 (h4.length ≤ 1048576) := ⟨by rw [hh2]; exact Nat.le_trans (Ah0 _) HL.out.2.2.1⟩
 rw [← hh2] at hr2
 have E4 := zA hh2
 obtain ⟨D4, d4, rfl, _, hdC⟩ := Kd.Ae4 hr2
 have C4 := zA hdC
 clear hr2 hb2 hdC hh2 z4
 go_wp2_with (at_builtin; refine Kd.Ah2 (Kd.int .i64) (w0 := w) w.heap.size rfl (.tmp 15) (.tmp 19) 23 3 (.int .i64 0) 8 rfl Tryz.underlying23 Ax8 rfl (by decide) (by omega) v3 (s.f1 ++ h2) (h4) _ _ _ (fun _ => True) (fun _ => False) rfl rfl A4.out.row C4.out (fun _ _ h => h) (fun _ h => h.elim) (fun _ _ => trivial) A4.out.bel A4.out.bel.size (by have := HL.out.1; have := L2.out; have := L4.out; rw [List.length_append]; omega) ?_; intro v5 w5 hr1 hb1 hg1 _; have A5 := zA (A4.out.app hr1 hb1 hg1); clear hr1 hb1 hg1)
 go_loopw [3, 4] (fun u i W => ∃ j : Nat, i = .int .i64 j ∧ j ≤ n5 ∧ AW w #[.bool s.f0, .slice S1 s.f1.length Sc1, .int .i64 s.f2.f0, .slice S3 s.f2.f1.length Sc3, .slice S4 s.f2.f2.length Sc4, .slice S5 s.f2.f3.length Sc5] u (s.f1 ++ h2 ++ h4 ++ Ad3 ((s.f2.f3.take j).map fun f => f.f0)) W) (fun _ i _ => n5 - (intOf i).toNat)
 case atStart => exact ⟨0, rfl, Nat.zero_le _, by have h_ := A5.out; rw [← List.append_nil (s.f1 ++ h2 ++ h4)] at h_; exact h_⟩
 case round =>
  clear A0 A1 A2 A3 A4 A5 C2 C4 z1
  obtain ⟨j, rfl, hj, haw⟩ := hrel
  have A6 := zA haw
  have l5 := HL.out.2.2.2
  have z5 : wr.cell? ⟨w.heap.size, 5, none⟩ = some (.slice S5 n5 Sc5) := by rw [HN.out]; exact bc_ haw.src 5
  by_cases hlt : j < n5
  ·obtain ⟨x, hx⟩ : ∃ x, s.f2.f3[j]? = some x := ⟨_, List.getElem?_eq_getElem (by rw [← HN.out]; exact hlt)⟩
   obtain ⟨ad, rfl, x0, x1, x2, x3⟩ := By8 (Kd.Ab1 HS.out.C5 haw.bel) hx
   obtain ⟨hs, hhs⟩ : ∃ h, h = Ad3 ((s.f2.f3.take j).map fun f => f.f0) := ⟨_, rfl⟩
   rw [← hhs] at A6
   have HX : Aa2 (Ad3 ((s.f2.f3.take (j + 1)).map fun f => f.f0) = hs ++ Ad3 [x.f0]) := ⟨by rw [List.take_add_one, hx, Option.toList_some, List.map_append, At8, ← hhs]; rfl⟩
   have HSL : Aa2 (hs.length ≤ j) := ⟨by rw [hhs]; exact Nat.le_trans (Ah0 _) (by rw [List.length_map, List.length_take]; omega)⟩
   have hlt2 : (j : Int) < (n5 : Int) := by omega
   have KH := Ar6 (l := [x.f0]) (c := 1) (vone_C wr x.f0) (by simp)
   clear haw hx hhs x3
   go_wp2_with fail
   refine KH.mono ?_
   rintro e w7 ⟨u7, rfl, hr2, hb2⟩
   have A7 := zA (A6.out.below ((bz_).trans (hb2.mono (by simp))))
   obtain ⟨h7, hh2⟩ : ∃ h, h = Ad3 [x.f0] := ⟨_, rfl⟩
   have L7 : Aa2 (h7.length ≤ 1) := ⟨by rw [hh2]; exact Ah0 _⟩
   rw [← hh2] at hr2
   have E7 := zA hh2
   obtain ⟨D7, d7, rfl, _, hdC⟩ := Kd.Ae4 hr2
   have C7 := zA hdC
   clear hr2 hb2 hdC hh2 z5 x0 x1 x2 KH
   go_wp2_with (at_builtin; refine Kd.Ah2 (Kd.int .i64) (w0 := w) w.heap.size rfl (.tmp 29) (.tmp 38) 23 3 (.int .i64 0) 8 rfl Tryz.underlying23 Ax8 rfl (by decide) (by omega) _ (s.f1 ++ h2 ++ h4 ++ hs) (h7) _ _ _ (fun _ => True) (fun _ => False) rfl rfl A7.out.row C7.out (fun _ _ h => h) (fun _ h => h.elim) (fun _ _ => trivial) A7.out.bel A7.out.bel.size (by have := HL.out; have := L2.out; have := L4.out; have := L7.out; have := HSL.out; rw [List.length_append, List.length_append, List.length_append]; omega) ?_; intro v8 w8 hr1 hb1 hg1 _; have A8 := zA (A7.out.app hr1 hb1 hg1); clear hr1 hb1 hg1)
   go_roundw
   case rel => exact ⟨j + 1, by go_num, hlt, by rw [HX.out, ← E7.out]; have h_ := A8.out; rw [List.append_assoc] at h_; exact h_⟩
   case measure => simp [intOf]; omega
  ·obtain rfl : j = n5 := by omega
   clear hlt haw
   go_wp2_with fail
   go_ret
   exact ⟨_, rfl, by have h_ := A6.out.row; rw [E2.out, E4.out, List.take_of_length_le (by rw [← HN.out]; exact Nat.le_refl _)] at h_; exact h_, A6.out.bel⟩
theorem Bm4 (en : Int) (s : S123) : Ak6 en s = true ↔ (∀ h ∈ s.f1, 0 ≤ h ∧ h < en) ∧ ∀ h ∈ Br8 s, -12 ≤ h ∧ h < en := by
 rw [Aw7, Cl6]
 exact ⟨fun ⟨h1, h2⟩ => ⟨fun h hh => ⟨h1 h hh, (h2.q1 h hh).2⟩, h2⟩, fun ⟨h1, h2⟩ => ⟨fun h hh => (h1 h hh).1, h2⟩⟩
set_option maxHeartbeats 8000000 in
theorem Bw5 {S1 : Option Addr} {Sc1 : Nat} {S3 : Option Addr} {Sc3 : Nat} {S4 : Option Addr} {Sc4 : Nat} {S5 : Option Addr} {Sc5 : Nat} {s : S123} (hs : Bm8 w S1 Sc1 S3 Sc3 S4 Sc4 S5 Sc5 s) (en : Int) :
  Calls Tryz.prog 62 #[.agg #[.bool s.f0, .slice S1 s.f1.length Sc1, .int .i64 s.f2.f0, .slice S3 s.f2.f1.length Sc3, .slice S4 s.f2.f2.length Sc4, .slice S5 s.f2.f3.length Sc5], .int .i64 en] w fun e w' => e = .returned (.bool (Ak6 en s)) ∧ Below w.heap.size w w' := by
 obtain ⟨W, hW⟩ : ∃ W, W = w.alloc (.cells #[.bool s.f0, .slice S1 s.f1.length Sc1, .int .i64 s.f2.f0, .slice S3 s.f2.f1.length Sc3, .slice S4 s.f2.f2.length Sc4, .slice S5 s.f2.f3.length Sc5] 123) := ⟨_, rfl⟩
 have b1 : Below w.heap.size w W := by rw [hW]; exact bz_
 have q0 : W.heap[w.heap.size]? = some (.cells #[.bool s.f0, .slice S1 s.f1.length Sc1, .int .i64 s.f2.f0, .slice S3 s.f2.f1.length Sc3, .slice S4 s.f2.f2.length Sc4, .slice S5 s.f2.f3.length Sc5] 123 (0, 0)) := by rw [hW]; exact Aa6 w _
 obtain ⟨rb, hrb⟩ : ∃ rb, rb = Ak6 en s := ⟨_, rfl⟩
 rw [← hrb]
 have HRB := zA hrb
 have HS := zA (hs.below b1)
 have B1 := zA b1
 have Q0 := zA q0
 have HL : Aa2 (s.f1.length ≤ 1048576 ∧ (Br8 s).length ≤ 1048576) := ⟨by have h_ := hs.w_; unfold wS at h_; omega, Nat.le_trans (Cl5 s) hs.w_⟩
 obtain ⟨n1, hn1⟩ : ∃ n, n = s.f1.length := ⟨_, rfl⟩
 have HN := zA hn1
 clear hs b1 q0 hrb hn1
 go_enter Tryz.func62, Tryz.ntmps62
 go_upto_region 1 with fail
 rw [← hW]
 clear hW
 go_wp2_with fail
 go_loopw [5] (fun i W2 => ∃ j : Nat, i = .int .i64 j ∧ j ≤ n1 ∧ W2 = W ∧ ∀ h ∈ s.f1.take j, 0 ≤ h ∧ h < en) (fun i _ => n1 - (intOf i).toNat)
 case atStart => exact ⟨0, rfl, Nat.zero_le _, rfl, fun h hh => by rw [List.take_zero] at hh; cases hh⟩
 case round =>
  obtain ⟨j, rfl, hj, rfl, hp⟩ := hrel
  have HP := zA hp
  have l1 : n1 ≤ 1048576 := by have := HL.out.1; have := HN.out; omega
  have z1 : wr.cell? ⟨w.heap.size, 1, none⟩ = some (.slice S1 n1 Sc1) := by rw [HN.out]; exact bc_ Q0.out 1
  by_cases hlt : j < n1
  ·obtain ⟨x, hx⟩ : ∃ x, s.f1[j]? = some x := ⟨_, List.getElem?_eq_getElem (by rw [← HN.out]; exact hlt)⟩
   obtain ⟨ad, rfl, x0⟩ := Be3 HS.out.C1 hx
   have HX := zA hx
   have hlt2 : (j : Int) < (n1 : Int) := by omega
   clear hp hx
   by_cases hok : 0 ≤ x ∧ x < en
   ·have g1 : decide (x < 0) = false := decide_eq_false (by omega)
    have g2 : decide (en ≤ x) = false := decide_eq_false (by omega)
    have HOK := zA hok
    clear hok
    go_wp2_with fail
    go_roundw
    case rel => exact ⟨j + 1, by go_num, hlt, trivial, fun h hh => by rw [List.take_add_one, HX.out, List.mem_append] at hh; exact hh.elim (HP.out h) (fun e => by rw [List.mem_singleton.1 e]; exact HOK.out)⟩
    case measure => simp [intOf]; omega
   ·obtain rfl : rb = false := HRB.out.trans (by rw [← Bool.not_eq_true, Bm4]; exact fun h => hok (h.1 x (List.mem_of_getElem? HX.out)))
    by_cases h0 : x < 0
    ·have g1 : decide (x < 0) = true := decide_eq_true h0
     clear hok h0
     go_wp2_with fail
     go_ret
     exact ⟨rfl, B1.out⟩
    ·have g1 : decide (x < 0) = false := decide_eq_false h0
     have g2 : decide (en ≤ x) = true := decide_eq_true (by omega)
     clear hok h0
     go_wp2_with fail
     go_ret
     exact ⟨rfl, B1.out⟩
  ·obtain rfl : j = n1 := by omega
   have HP2 : Aa2 (∀ h ∈ s.f1, 0 ≤ h ∧ h < en) := ⟨fun h hh => HP.out h (by rw [List.take_of_length_le (by rw [← HN.out]; exact Nat.le_refl _)]; exact hh)⟩
   have KA := Cd4 HS.out
   rw [← HN.out] at KA
   have y0 : wr.cell? ⟨w.heap.size, 0, none⟩ = some (.bool s.f0) := bc_ Q0.out 0
   have y2 : wr.cell? ⟨w.heap.size, 2, none⟩ = some (.int .i64 s.f2.f0) := bc_ Q0.out 2
   have y3 : wr.cell? ⟨w.heap.size, 3, none⟩ = some (.slice S3 s.f2.f1.length Sc3) := bc_ Q0.out 3
   have y4 : wr.cell? ⟨w.heap.size, 4, none⟩ = some (.slice S4 s.f2.f2.length Sc4) := bc_ Q0.out 4
   have y5 : wr.cell? ⟨w.heap.size, 5, none⟩ = some (.slice S5 s.f2.f3.length Sc5) := bc_ Q0.out 5
   clear hlt hp HP
   go_wp2_with fail
   refine KA.mono ?_
   rintro e w3 ⟨u, rfl, hr, hb⟩
   have B3 := zA (B1.out.trans (hb.mono B1.out.size))
   obtain ⟨l, hl⟩ : ∃ l, l = Br8 s := ⟨_, rfl⟩
   rw [← hl] at hr HL
   have HL2 := zA hl
   obtain ⟨D, d, rfl, _, hdC⟩ := Kd.Ae4 hr
   obtain ⟨n, hn⟩ : ∃ n, n = l.length := ⟨_, rfl⟩
   rw [← hn] at hdC ⊢
   have HN2 := zA hn
   have C3 := zA hdC
   clear KA hr hb hl hdC hn
   go_wp2_with fail
   go_loopw [7] (fun i W2 => ∃ j : Nat, i = .int .i64 j ∧ j ≤ n ∧ W2 = w3 ∧ ∀ h ∈ l.take j, -12 ≤ h ∧ h < en) (fun i _ => n - (intOf i).toNat)
   case atStart => exact ⟨0, rfl, Nat.zero_le _, rfl, fun h hh => by rw [List.take_zero] at hh; cases hh⟩
   case round =>
    obtain ⟨j, rfl, hj, rfl, hp⟩ := hrel
    have HP := zA hp
    have l2 : n ≤ 1048576 := by have := HL.out.2; have := HN2.out; omega
    by_cases hlt : j < n
    ·obtain ⟨x, hx⟩ : ∃ x, l[j]? = some x := ⟨_, List.getElem?_eq_getElem (by rw [← HN2.out]; exact hlt)⟩
     obtain ⟨ad, rfl, x0⟩ := Be3 C3.out hx
     have HX := zA hx
     have hlt2 : (j : Int) < (n : Int) := by omega
     clear hp hx
     by_cases hok : -12 ≤ x ∧ x < en
     ·have g1 : decide (en ≤ x) = false := decide_eq_false (by omega)
      have g2 : decide (x < -12) = false := decide_eq_false (by omega)
      have HOK := zA hok
      clear hok
      go_wp2_with fail
      go_roundw
      case rel => exact ⟨j + 1, by go_num, hlt, trivial, fun h hh => by rw [List.take_add_one, HX.out, List.mem_append] at hh; exact hh.elim (HP.out h) (fun e => by rw [List.mem_singleton.1 e]; exact HOK.out)⟩
      case measure => simp [intOf]; omega
     ·obtain rfl : rb = false := HRB.out.trans (by rw [← Bool.not_eq_true, Bm4, ← HL2.out]; exact fun h => hok (h.2 x (List.mem_of_getElem? HX.out)))
      by_cases h0 : en ≤ x
      ·have g1 : decide (en ≤ x) = true := decide_eq_true h0
       clear hok h0
       go_wp2_with fail
       go_ret
       exact ⟨rfl, B3.out⟩
      ·have g1 : decide (en ≤ x) = false := decide_eq_false h0
       have g2 : decide (x < -12) = true := decide_eq_true (by omega)
       clear hok h0
       go_wp2_with fail
       go_ret
       exact ⟨rfl, B3.out⟩
    ·obtain rfl : j = n := by omega
     obtain rfl : rb = true := HRB.out.trans (by rw [Bm4, ← HL2.out]; exact ⟨HP2.out, fun h hh => HP.out h (by rw [List.take_of_length_le (by rw [← HN2.out]; exact Nat.le_refl _)]; exact hh)⟩)
     clear hlt hp
     go_wp2_with fail
     go_ret
     exact ⟨rfl, B3.out⟩
theorem rtx_at {w : World} {A : Option Addr} {n : Nat} {l : List S132} (h : Kd.C k132 w A n l) {j : Nat} {x : S132} (hj : l[j]? = some x) : ∃ ad A0 c0, A = some ad ∧ w.cell? (ad.add (j * 2)) = some (.slice A0 x.f0.length c0) ∧ Kd.C k123 w A0 x.f0.length x.f0 := by
 obtain ⟨hl, hx⟩ := List.getElem?_eq_some_iff.1 hj
 have h1 := h.1
 obtain ⟨ad, A0, c0, e, d0, d1, _, dC⟩ := Aq1 h (j : Int) (by omega) (by omega)
 rw [Cf8 l j hl, hx] at d0 dC
 rw [Int.toNat_natCast] at d0
 exact ⟨ad, A0, c0, e, d0, dC⟩
set_option maxHeartbeats 8000000 in
theorem At0 (A : Option Addr) (c : Nat) (l : List S132) (w : World) (h : LA w A c l) : Calls Tryz.prog 28 #[.slice A l.length c] w fun e w' => (∃ n er : Int, e = .returned (.tuple #[.int .i64 n, .int .i64 er]) ∧ Bs2 l n er) ∧ Below w.heap.size w w' := by
 have hw := h.w
 have hC := h.C
 have htl := Ab4 l
 obtain ⟨n, hn⟩ : ∃ n, n = l.length := ⟨_, rfl⟩
 have hl1 : n ≤ 1048576 := by omega
 have HC := zA hC
 have HN := zA hn
 have HW : Aa2 (wL l ≤ 1048576 ∧ Aa8 l ≤ 1048576) := ⟨by omega, by omega⟩
 rw [← hn]
 clear h hw hC htl hn
 go_enter Tryz.func28, Tryz.ntmps28
 go_wp2_with fail
 go_loopw [4, 5] (fun v i W => ∃ j : Nat, i = .int .i64 j ∧ j ≤ n ∧ v = .int .i64 ((Aa8 (l.take j) : Nat) : Int) ∧ Below w.heap.size w W ∧ ∀ (j' : Nat) (r' : S132), j' < j → l[j']? = some r' → ∀ s' ∈ r'.f0, Ak6 (Aa8 (l.take (j' + 1)) : Nat) s' = true) (fun _ i _ => n - (intOf i).toNat)
 case atStart => exact ⟨0, rfl, Nat.zero_le _, rfl, Below.refl _ _, fun _ _ h => absurd h (Nat.not_lt_zero _)⟩
 case round =>
  obtain ⟨j, rfl, hj, rfl, hb, hp⟩ := hrel
  have HP := zA hp
  have B := zA hb
  by_cases hlt : j < n
  ·obtain ⟨r, hr⟩ : ∃ r, l[j]? = some r := ⟨_, List.getElem?_eq_getElem (by rw [← HN.out]; exact hlt)⟩
   obtain ⟨ad, A0, c0, rfl, y0, hC0'⟩ := rtx_at HC.out hr
   have hC0 : ∀ {W : World}, Below w.heap.size w W → Kd.C k123 W A0 r.f0.length r.f0 := fun hb' => Kd.Ab1 hC0' hb'
   have hX0 : ∀ {W : World}, Below w.heap.size w W → W.cell? (ad.add (j * 2)) = some (.slice A0 r.f0.length c0) := fun hb' => hb'.kp y0
   have x0 := hX0 hb
   clear y0 hC0'
   obtain ⟨tn, htn⟩ : ∃ t, t = Aa8 (l.take j) := ⟨_, rfl⟩
   obtain ⟨te, hte⟩ : ∃ t, t = Aa8 (l.take (j + 1)) := ⟨_, rfl⟩
   obtain ⟨m, hm⟩ : ∃ m, m = r.f0.length := ⟨_, rfl⟩
   have h1 : te = tn + m := by rw [hte, htn, hm]; exact Ad8 l j r hr
   have h2 : te ≤ 1048576 := by have h3 := Ab7 l j r hr; rw [← htn, ← hm] at h3; have := HW.out.2; omega
   rw [← hm] at hC0 hX0 x0
   rw [← htn]
   have HWE : Aa2 (wrap64 ((tn : Int) + (m : Int)) = (te : Int)) := ⟨by unfold wrap64; omega⟩
   have HR := zA hr
   have HT := zA (And.intro htn (And.intro hte (And.intro hm h1)))
   have hlt2 : (j : Int) < (n : Int) := by omega
   have hm1 : m ≤ 1048576 := by omega
   have WR : Aa2 (∀ s ∈ r.f0, wS s ≤ 1048576) := ⟨fun s hs => Nat.le_trans (Av0 hs) (Nat.le_trans (Ba0 (List.mem_of_getElem? hr)) HW.out.1)⟩
   have CX : Aa2 (∀ {W : World}, Below w.heap.size w W → Kd.C k123 W A0 m r.f0) := ⟨fun hb' => hC0 hb'⟩
   have BX : Aa2 (∀ {W : World}, Below w.heap.size w W → W.cell? (ad.add (j * 2)) = some (.slice A0 m c0)) := ⟨fun hb' => hX0 hb'⟩
   clear hp hb hr htn hte hm hC0 hX0 h1
   go_wp2_with fail
   go_loopw [7] (fun i W => ∃ p : Nat, i = .int .i64 p ∧ p ≤ m ∧ Below w.heap.size w W ∧ ∀ (i' : Nat) (s' : S123), i' < p → r.f0[i']? = some s' → Ak6 (te : Nat) s' = true) (fun i _ => m - (intOf i).toNat)
   case atStart => exact ⟨0, rfl, Nat.zero_le _, B.out, fun _ _ h => absurd h (Nat.not_lt_zero _)⟩
   case round =>
    clear B
    obtain ⟨p, rfl, hpm, hb2, hq⟩ := hrel
    have HQ := zA hq
    have B2 := zA hb2
    have x1 := BX.out hb2
    by_cases hlp : p < m
    ·obtain ⟨s, hs⟩ : ∃ s, r.f0[p]? = some s := ⟨_, List.getElem?_eq_getElem (by rw [← HT.out.2.2.1]; exact hlp)⟩
     obtain ⟨ae, S1, Sc1, S3, Sc3, S4, Sc4, S5, Sc5, rfl, hss, y0, y1, y2, y3, y4, y5⟩ := Cf4 (CX.out hb2) hs (WR.out s (List.mem_of_getElem? hs))
     have HSS := zA hs
     have KF := Bw5 hss (wrap64 ((tn : Int) + (m : Int)))
     have hlp2 : (p : Int) < (m : Int) := by omega
     obtain ⟨rb, hrb⟩ : ∃ rb, rb = Ak6 (wrap64 ((tn : Int) + (m : Int))) s := ⟨_, rfl⟩
     rw [← hrb] at KF
     have HRB : Aa2 (rb = Ak6 (te : Int) s) := ⟨by rw [hrb, HWE.out]⟩
     clear hb2 hq hs hss hrb
     go_wp2_with fail
     refine KF.mono ?_
     rintro e w3 ⟨rfl, hb3⟩
     have B3 := zA (B2.out.trans (hb3.mono B2.out.size))
     clear KF hb3 y0 y1 y2 y3 y4 y5 x1
     cases rb with
     | true =>
      go_wp2_with fail
      go_roundw
      case rel => exact ⟨p + 1, by go_num, hlp, B3.out, fun i' s' hi hs' => by
       rcases Nat.lt_or_ge i' p with hl | hl
       ·exact HQ.out i' s' hl hs'
       ·obtain rfl : i' = p := by omega
        rw [HSS.out] at hs'
        injection hs' with hs'
        rw [← hs']
        exact HRB.out.symm⟩
      case measure => simp [intOf]; omega
     | false =>
      have HT4 : Aa2 (wrap64 ((tn : Int) + (p : Int)) = ((tn + p : Nat) : Int)) := ⟨by have h5 := HT.out.2.2.2; unfold wrap64; omega⟩
      go_wp2_with fail
      refine bodyPost_ret (results_tmp2 rfl _ _ _) rfl ?_
      exact ⟨⟨_, _, rfl, .inr ⟨tn + p, ⟨j, p, r, s, HR.out, HSS.out, by rw [HT.out.1], by rw [← HT.out.2.1]; exact HRB.out.symm, HP.out, by rw [← HT.out.2.1]; exact HQ.out⟩, HT4.out, rfl⟩⟩, B3.out⟩
    ·obtain rfl : p = m := by omega
     clear hlp hq
     go_wp2_with fail
     go_roundw
     case rel => exact ⟨j + 1, by go_num, hlt, by rw [HWE.out, HT.out.2.1], B2.out, fun j' r' hj' hr' s' hs' => by
      rcases Nat.lt_or_ge j' j with hl | hl
      ·exact HP.out j' r' hl hr' s' hs'
      ·obtain rfl : j' = j := by omega
       rw [HR.out] at hr'
       injection hr' with hr'
       subst hr'
       obtain ⟨i', hi', rfl⟩ := List.getElem_of_mem hs'
       rw [← HT.out.2.1]
       exact HQ.out i' _ (by rw [HT.out.2.2.1]; exact hi') (List.getElem?_eq_getElem hi')⟩
     case measure => simp [intOf]; omega
  ·obtain rfl : j = n := by omega
   clear hlt hp
   go_wp2_with fail
   refine bodyPost_ret (results_tmp2 rfl _ _ _) rfl ?_
   exact ⟨⟨0, 0, rfl, .inl ⟨fun j' r' hr' s' hs' => HP.out j' r' (by rw [HN.out]; exact (List.getElem?_eq_some_iff.1 hr').1) hr' s' hs', rfl, rfl⟩⟩, B.out⟩
end
theorem Br9 {m1 m2 : Int} {st st1 st2 : List (List S123) × List Int} {r : S132} (h1 : Ad4 m1 st r = some st1) (h2 : Ad4 m2 st r = some st2) : st1 = st2 := by
 unfold Ad4 at h1 h2
 cases hf : Ak9 st.1 (ownG st.2 r) with
 | some i =>
  rw [hf] at h1 h2
  dsimp only at h1 h2
  rw [h1] at h2
  injection h2
 | none =>
  rw [hf] at h1 h2
  dsimp only at h1 h2
  split at h1
  ·cases h1
  ·split at h2
   ·cases h2
   ·rw [h1] at h2
    injection h2
theorem Bj7 {m1 m2 : Int} (l : List S132) : ∀ {st st1 st2 : List (List S123) × List Int}, Ae1 m1 st l = some st1 → Ae1 m2 st l = some st2 → st1 = st2 := by
 induction l with
 | nil =>
  intro st st1 st2 h1 h2
  simp only [Ae1] at h1 h2
  rw [h1] at h2
  injection h2
 | cons r l ih =>
  intro st st1 st2 h1 h2
  simp only [Ae1] at h1 h2
  cases e1 : Ad4 m1 st r with
  | none => rw [e1] at h1; cases h1
  | some q1 =>
   cases e2 : Ad4 m2 st r with
   | none => rw [e2] at h2; cases h2
   | some q2 =>
    rw [e1] at h1
    rw [e2] at h2
    have := Br9 e1 e2
    subst this
    exact ih h1 h2
theorem addTo_wg {most : Int} (l : List S132) : ∀ {gs gs' : List (List S123)} {ids ids' : List Int}, Ae1 most (gs, ids) l = some (gs', ids') → ∀ x ∈ gs', x ∈ gs ∨ ∃ r ∈ l, wG x = wG r.f0 := by
 induction l with
 | nil =>
  intro gs gs' ids ids' h x hx
  simp only [Ae1, Option.some.injEq, Prod.mk.injEq] at h
  obtain ⟨rfl, rfl⟩ := h
  exact .inl hx
 | cons r l ih =>
  intro gs gs' ids ids' h x hx
  simp only [Ae1] at h
  cases hs : Ad4 most (gs, ids) r with
  | none => rw [hs] at h; cases h
  | some st =>
   obtain ⟨gs1, ids1⟩ := st
   rw [hs] at h
   rcases ih h x hx with h1 | ⟨r', hr', e⟩
   ·unfold Ad4 at hs
    dsimp only at hs
    cases hf : Ak9 gs (ownG ids r) with
    | some i =>
     rw [hf] at hs
     simp only [Option.some.injEq, Prod.mk.injEq] at hs
     obtain ⟨rfl, rfl⟩ := hs
     exact .inl h1
    | none =>
     rw [hf] at hs
     dsimp only at hs
     split at hs
     ·cases hs
     ·simp only [Option.some.injEq, Prod.mk.injEq] at hs
      obtain ⟨rfl, rfl⟩ := hs
      rcases List.mem_append.1 h1 with h1 | h1
      ·exact .inl h1
      ·rw [List.mem_singleton.1 h1]
       exact .inr ⟨r, by simp, Bx7 ids r⟩
   ·exact .inr ⟨r', by simp [hr'], e⟩
theorem Bs2.yes {l : List S132} {n e : Int} (h : Bs2 l n e) (hc : Clo l) : n = 0 ∧ e = 0 := by
 rcases h with ⟨_, h1, h2⟩ | ⟨m, hb, _⟩
 ·exact ⟨h1, h2⟩
 ·exact absurd hc hb.not
theorem Bs2.no {l : List S132} {n e : Int} (h : Bs2 l n e) (hc : ¬ Clo l) : e = 50 := by
 rcases h with ⟨h0, _⟩ | ⟨m, _, _, h2⟩
 ·exact absurd h0 hc
 ·exact h2
theorem LR.of_LA {w : World} {A : Option Addr} {c : Nat} {l : List S132} (h : LA w A c l) {S : World → Prop} (hS : ∀ W, S W → Below w.heap.size w W) : LR S A l := LR.of_C h.C hS
set_option maxHeartbeats 8000000 in
theorem Bt7 (A1 : Option Addr) (c1 : Nat) (a : List S132) (A2 : Option Addr) (c2 : Nat) (b : List S132) (x y : Int) (w : World) (ha : LA w A1 c1 a) (hb : LA w A2 c2 b) (bo : Bool) (ko : Int) (hone : oneM a b x y = (bo, ko)) :
  Calls Tryz.prog 195 #[.slice A1 a.length c1, .slice A2 b.length c2, .int .i64 x, .int .i64 y] w fun e w' => e = .returned (.tuple #[.bool bo, .int .i64 ko]) ∧ Below w.heap.size w w' := by
 have HA := zA ha
 have HB := zA hb
 have HONE := zA hone
 clear ha hb hone
 go_enter Tryz.func195, Tryz.ntmps195
 go_wp2_with fail
 refine (At0 A1 c1 a w HA.out).mono ?_
 rintro e w1 ⟨⟨n1, e1, rfl, ho1⟩, hb1⟩
 have B1 := zA hb1
 have O1 := zA ho1
 clear hb1 ho1
 go_wp2_with fail
 refine (At0 A2 c2 b w1 (HB.out.below B1.out)).mono ?_
 rintro e w2 ⟨⟨n2, e2, rfl, ho2⟩, hb2⟩
 have B2 := zA (B1.out.trans (hb2.mono B1.out.size))
 have O2 := zA ho2
 clear hb2 ho2
 by_cases hca : Clo a
 rotate_left
 ·obtain rfl := O1.out.no hca
  have e0 : (bo, ko) = (false, (50 : Int)) := by rw [← HONE.out]; unfold oneM; rw [if_neg (fun h => hca h.1)]
  injection e0 with eb ek
  subst eb ek
  clear hca O1 O2
  go_wp2_with fail
  go_ret2
  exact ⟨rfl, B2.out⟩
 obtain ⟨rfl, rfl⟩ := O1.out.yes hca
 by_cases hcb : Clo b
 rotate_left
 ·obtain rfl := O2.out.no hcb
  have e0 : (bo, ko) = (false, (50 : Int)) := by rw [← HONE.out]; unfold oneM; rw [if_neg (fun h => hcb h.2)]
  injection e0 with eb ek
  subst eb ek
  clear hcb O1 O2 hca
  go_wp2_with fail
  go_ret2
  exact ⟨rfl, B2.out⟩
 obtain ⟨rfl, rfl⟩ := O2.out.yes hcb
 have HCA := zA hca
 have HCB := zA hcb
 clear hca hcb O1 O2
 have T3 : Aa2 (R6 w2.heap.size w2.heap.size (fun _ => True) [] (.slice none 0 0) (w2.alloc (.cells #[.slice none 0 0, .int .i64 0] 263))) := ⟨Aa6 w2 _, Kd.Aj9 _ _ _ _ _, Nat.le_refl _⟩
 have B3 : Aa2 (Below w.heap.size w (w2.alloc (.cells #[.slice none 0 0, .int .i64 0] 263))) := ⟨B2.out.trans ((Below.refl _ _).alloc B2.out.size _)⟩
 have HZ3 : Aa2 (w2.heap.size ≤ (w2.alloc (.cells #[.slice none 0 0, .int .i64 0] 263)).heap.size) := ⟨by simp⟩
 have HWB : Aa2 (w.heap.size ≤ w2.heap.size) := ⟨B2.out.size⟩
 have hta : Aa8 a ≤ 1048576 := by have := Ab4 a; have := HA.out.w; omega
 have htb : Aa8 b ≤ 1048576 := by have := Ab4 b; have := HB.out.w; omega
 have e0 : Ab2 [] = 0 := rfl
 obtain ⟨g1, i1, ha1, hm1, hl1, hg1⟩ := Ak3 9223372036854775807 a [] [] (by rw [e0]; omega)
 obtain ⟨g2, i2, ha2, hm2, hl2, hg2⟩ := Ak3 9223372036854775807 b g1 [] (by rw [e0] at hm1; omega)
 obtain ⟨g1', i1', ka1, km1, kx1, ky1⟩ := Ak3 4611686018427387904 a [] [] (by rw [e0]; omega)
 have q1 := Bj7 a ha1 ka1
 injection q1 with q1 q1'
 subst q1 q1'
 obtain ⟨g2', i2', ka2, km2, kx2, ky2⟩ := Ak3 4611686018427387904 b g1 [] (by rw [e0] at hm1; omega)
 have q2 := Bj7 b ha2 ka2
 injection q2 with q2 q2'
 subst q2 q2'
 have hids : Aq8 a b = (i1, i2) := by unfold Aq8; rw [ha1]; dsimp only; rw [ha2]
 have HIDS := zA hids
 have KA1 := zA ka1
 have KA2 := zA ka2
 have HL1 := zA hl1
 have HL2 := zA hl2
 have HM1 : Aa2 (Ab2 g1 ≤ 1048576 ∧ g1.length ≤ 1048576) := ⟨by rw [e0] at hm1; omega, by have h1_ : ([] : List (List S123)).length = 0 := rfl; rw [h1_] at hg1; have := HA.out.w; omega⟩
 clear ha1 ha2 hm1 hm2 hg1 hg2 hl1 hl2 ka1 ka2 km1 km2 kx1 ky1 kx2 ky2 hids e0
 go_wp2_with fail
 refine (Bc9 w2.heap.size w2.heap.size [] (.slice none 0 0) A1 c1 a 4611686018427387904 g1 i1 _ T3.out HZ3.out (LR.of_LA HA.out (fun W hW => B3.out.trans (hW.bel.mono HWB.out))) HA.out.cap (Bc4 (by have := HA.out.w; omega) HA.out.inn HCA.out) (by have := HA.out.w; omega) (by have := HA.out.w; omega) (by simp [Ab2]) (by simp) (fun x hx => by cases hx) (by simp [Ab2]) KA1.out).mono ?_
 rintro e w4 ⟨v4, vi, rfl, hra⟩
 have A4 := zA hra
 obtain ⟨Ai, ci, hvi⟩ := Kd.Aa9 hra.iv
 subst hvi
 have B4 : Aa2 (Below w.heap.size w w4) := ⟨B3.out.trans (hra.fr.bel.mono HWB.out)⟩
 clear hra
 go_wp2_with fail
 refine (Bc9 w2.heap.size w2.heap.size g1 v4 A2 c2 b 4611686018427387904 g2 i2 w4 (A4.out.t.weak (fun _ _ => trivial)) A4.out.fr.zz (LR.of_LA HB.out (fun W hW => B4.out.trans (hW.bel.mono HWB.out))) HB.out.cap (Bc4 (by have := HB.out.w; omega) HB.out.inn HCB.out) (by have := HB.out.w; omega) (by have := HB.out.w; omega) (by have := HM1.out.1; omega) (by have := HM1.out.2; omega) (fun x hx => by rcases addTo_wg a KA1.out x hx with h_ | ⟨r_, hr_, h_⟩; cases h_; rw [h_]; exact Nat.le_trans (Ba0 hr_) (by have := HA.out.w; omega)) (by have := HM1.out.1; omega) KA2.out).mono ?_
 rintro e w5 ⟨v5, vj, rfl, hrb⟩
 obtain ⟨Aj, cj, hvj⟩ := Kd.Aa9 hrb.iv
 subst hvj
 have B5 : Aa2 (Below w.heap.size w w5) := ⟨B4.out.trans (hrb.fr.bel.mono HWB.out)⟩
 have hri := hrb.fr.row A4.out.iv ⟨_, _, A4.out.t.box, by show (263 : Nat) ≠ 3; decide⟩
 obtain ⟨_, _, e1, hci, hCi⟩ := Kd.Ae4 hri
 injection e1 with e1 e2 e3
 subst e1 e3
 obtain ⟨_, _, e4, hcj, hCj⟩ := Kd.Ae4 hrb.iv
 injection e4 with e4 e5 e6
 subst e4 e6
 have e0 : ([] : List Int).length = 0 := rfl
 have hl1 : i1.length = Aa8 a := by have h_ := HL1.out; rw [e0] at h_; omega
 have hl2 : i2.length = Aa8 b := by have h_ := HL2.out; rw [e0] at h_; omega
 have out1 : ¬ (0 ≤ x ∧ x < (i1.length : Int) ∧ 0 ≤ y ∧ y < (i2.length : Int)) → bo = false ∧ ko = 1 := fun h => by
  rw [hl1, hl2] at h
  have e0 : (bo, ko) = (false, (1 : Int)) := by rw [← HONE.out]; unfold oneM; rw [if_pos ⟨HCA.out, HCB.out⟩, if_neg h]
  injection e0 with eb ek
  exact ⟨eb, ek⟩
 have out2 : (0 ≤ x ∧ x < (i1.length : Int) ∧ 0 ≤ y ∧ y < (i2.length : Int)) → bo = (rd i1 x == rd i2 y) ∧ ko = 0 := fun h => by
  rw [hl1, hl2] at h
  have e0 := Bu5 HCA.out HCB.out h
  rw [HONE.out, HIDS.out] at e0
  injection e0 with eb ek
  exact ⟨eb, ek⟩
 have OUT1 := zA out1
 have OUT2 := zA out2
 have HCI := zA hCi
 have HCJ := zA hCj
 clear hrb hri hCi hCj e2 e5 e0 hl1 hl2 out1 out2 hci hcj
 by_cases hx0 : x < 0
 ·obtain ⟨rfl, rfl⟩ := OUT1.out (by omega)
  go_wp2_with fail
  go_ret2
  exact ⟨rfl, B5.out⟩
 by_cases hx1 : (i1.length : Int) ≤ x
 ·obtain ⟨rfl, rfl⟩ := OUT1.out (by omega)
  go_wp2_with fail
  go_ret2
  exact ⟨rfl, B5.out⟩
 by_cases hy0 : y < 0
 ·obtain ⟨rfl, rfl⟩ := OUT1.out (by omega)
  go_wp2_with fail
  go_ret2
  exact ⟨rfl, B5.out⟩
 by_cases hy1 : (i2.length : Int) ≤ y
 ·obtain ⟨rfl, rfl⟩ := OUT1.out (by omega)
  go_wp2_with fail
  go_ret2
  exact ⟨rfl, B5.out⟩
 obtain ⟨eb, rfl⟩ := OUT2.out (by omega)
 have hx' : 0 ≤ x := by omega
 have hy' : 0 ≤ y := by omega
 have hli : x < (i1.length : Int) := by omega
 have hlj : y < (i2.length : Int) := by omega
 obtain ⟨ai, ei, hxi⟩ := Kd.Au2 HCI.out x hx' hli
 obtain ⟨aj, ej, hyj⟩ := Kd.Au2 HCJ.out y hy' hlj
 subst ei ej
 obtain ⟨p1, hp1⟩ : ∃ p, p = rd i1 x := ⟨_, rfl⟩
 obtain ⟨p2, hp2⟩ : ∃ p, p = rd i2 y := ⟨_, rfl⟩
 rw [← hp1, ← hp2] at eb
 rw [← hp1] at hxi
 rw [← hp2] at hyj
 subst eb
 have HX := zA (And.intro hxi hyj)
 clear hxi hyj hp1 hp2 hx0 hx1 hy0 hy1
 go_wp2_with fail
 refine Ab3 (n := 11) (S := fun w' => w'.cell? (ai.add x.toNat) = some (.int .i64 p1) ∧ w'.cell? (aj.add y.toNat) = some (.int .i64 p2)) (ds := []) (bm_ 11 0) (by kernel_rfl) rfl rfl ⟨HX.out.1, HX.out.2⟩ (fun hHeld => ?_)
 refine pz_ 0 67 11 1 ?_
 refine pz_ 1 68 11 3 ?_
 refine pz_ 2 69 11 7 ?_
 refine pz_ 4 71 11 23 ?_
 refine pz_ 5 72 11 55 ?_
 refine pz_ 6 73 11 119 ?_
 refine tz_ 3 70 11 127 hHeld ?_
 refine tz_ 7 74 11 255 hHeld ?_
 refine pz_ 8 75 11 511 ?_
 refine pz_ 9 8 11 1023 ?_
 refine pz_ 10 9 11 2047 ?_
 refine dz_ ?_

 go_wp2_with fail
 go_ret2
 exact ⟨rfl, B5.out.drew⟩
theorem Bo5 (A : Option Addr) (c : Nat) (l : List S132) (x y : Int) (w : World) (hl : LA w A c l) (b : Bool) (k : Int) (hone : oneM l l x y = (b, k)) :
  Calls Tryz.prog 193 #[.slice A l.length c, .int .i64 x, .int .i64 y] w fun e w' => e = .returned (.tuple #[.bool b, .int .i64 k]) ∧ Below w.heap.size w w' := by
 have K := zA (Bt7 A c l A c l x y w hl hl b k hone)
 clear hl hone
 go_enter Tryz.func193, Tryz.ntmps193
 go_wp2_with fail
 refine K.out.mono ?_
 rintro e w1 ⟨rfl, hb1⟩
 have HB1 := zA hb1
 clear hb1 K
 go_wp2_with fail
 go_ret2
 exact ⟨rfl, HB1.out⟩
def upH (h : Int) : Int := if h = -2 then -1 else if h = -4 then -3 else if h = -6 then -5 else if h = -7 then -6 else if h = -8 then -6 else if h = -9 then -6 else if h = -12 then -11 else 0
def famH (h : Int) : Int := if h = -1 then -1 else if h = -2 then -1 else if h = -3 then -3 else if h = -4 then -3 else if h = -11 then -11 else if h = -12 then -11 else -5
def absL (x b : Int) : Bool := decide (x = b) || decide (upH x = b) || decide (upH (upH x) = b)
def absM (a b : Int) : Bool := if a = -10 then decide (b = -10) || decide (famH b = -5) else absL a b
theorem Ao7 {h : Int} (h0 : -12 ≤ h) (h1 : h ≤ 0) : h = 0 ∨ h = -1 ∨ h = -2 ∨ h = -3 ∨ h = -4 ∨ h = -5 ∨ h = -6 ∨ h = -7 ∨ h = -8 ∨ h = -9 ∨ h = -10 ∨ h = -11 ∨ h = -12 := by omega
theorem upH_gt {h : Int} (h0 : -12 ≤ h) (h1 : h < 0) : h < upH h ∧ upH h ≤ 0 ∧ upH h ≠ -10 ∧ -12 ≤ upH h := by
 rcases Ao7 h0 (by omega) with rfl | rfl | rfl | rfl | rfl | rfl | rfl | rfl | rfl | rfl | rfl | rfl | rfl <;> simp [upH] at * 
theorem upH3 {h : Int} (h0 : -12 ≤ h) (h1 : h ≤ 0) : upH (upH (upH h)) = 0 := by
 rcases Ao7 h0 h1 with rfl | rfl | rfl | rfl | rfl | rfl | rfl | rfl | rfl | rfl | rfl | rfl | rfl <;> simp [upH]
theorem absL_up {x b : Int} (h0 : -12 ≤ x) (h1 : x ≤ 0) (hb : b < 0) (hx : x ≠ b) : absL (upH x) b = absL x b := by
 unfold absL
 rw [upH3 h0 h1]
 have e1 : decide (x = b) = false := by simp [hx]
 have e2 : decide ((0 : Int) = b) = false := by simp; omega
 rw [e1, e2]
 simp
theorem up_index (h : Int) (h0 : -12 ≤ h) (h1 : h ≤ 0) (w : World) : (Instr.index 249 (.agg #[.int .i64 0, .int .i64 0, .int .i64 (-1), .int .i64 0, .int .i64 (-3), .int .i64 0, .int .i64 (-5), .int .i64 (-6), .int .i64 (-6), .int .i64 (-6), .int .i64 0, .int .i64 0, .int .i64 (-11)]) (.int .i64 (-h))).run Tryz.prog w = .ok (.int .i64 (upH h)) w := by
 rcases Ao7 h0 h1 with rfl | rfl | rfl | rfl | rfl | rfl | rfl | rfl | rfl | rfl | rfl | rfl | rfl <;>
  simp [Instr.index, Sem.run_bind, Value.cells, upH, go_sem]
theorem Bn2 (h : Int) (w : World) (h0 : -12 ≤ h) (h1 : h ≤ 0) : Calls Tryz.prog 179 #[.int .i64 h] w fun e w' => e = .returned (.int .i64 (upH h)) ∧ w' = w := by
 have hi := up_index h h0 h1
 have hw : wrap64 (-h) = -h := by unfold wrap64; omega
 go_enter Tryz.func179, Tryz.ntmps179
 go_wp2_with fail
 go_ret
 exact ⟨rfl, rfl⟩
theorem Bk6 (h : Int) (w : World) (h0 : -12 ≤ h) (h1 : h < 0) : Calls Tryz.prog 178 #[.int .i64 h] w fun e w' => e = .returned (.int .i64 (famH h)) ∧ w' = w := by
 go_enter Tryz.func178, Tryz.ntmps178
 go_wp2_with fail
 go_loopw [0] (fun v W => ∃ (x : Int), v = .int .i64 x ∧ -12 ≤ x ∧ x < 0 ∧ famH x = famH h ∧ W = w) (fun v _ => (-(intOf v)).toNat)
 case atStart => exact ⟨h, rfl, h0, h1, rfl, rfl⟩
 case round =>
  clear h0 h1
  obtain ⟨x, rfl, h0, h1, hf, rfl⟩ := hrel
  have up : ∀ y, -12 ≤ y → y ≤ 0 → Calls Tryz.prog 179 #[.int .i64 y] wr fun e w' => e = .returned (.int .i64 (upH y)) ∧ w' = wr := fun y a b => Bn2 y wr a b
  rcases Ao7 h0 (by omega) with rfl | rfl | rfl | rfl | rfl | rfl | rfl | rfl | rfl | rfl | rfl | rfl | rfl
  ·exact absurd h1 (by decide)
  all_goals clear h0 h1
  all_goals go_wp2_with (refine (up _ (by decide) (by decide)).mono ?_; rintro e w' ⟨rfl, rfl⟩)
  all_goals first
   | (go_ret; exact ⟨by rw [← hf]; rfl, rfl⟩)
   | (go_roundw
      case rel => exact ⟨_, rfl, by decide, by decide, by rw [← hf]; rfl, trivial⟩
      case measure => decide)
theorem Aq7 (a b : Int) (w : World) (a0 : -12 ≤ a) (a1 : a < 0) (b0 : -12 ≤ b) (b1 : b < 0) : Calls Tryz.prog 167 #[.int .i64 a, .int .i64 b] w fun e w' => e = .returned (.bool (absM a b)) ∧ w' = w := by
 go_enter Tryz.func167, Tryz.ntmps167
 by_cases h10 : a = -10
 ·subst h10
  have hf := Bk6 b w b0 b1
  by_cases hb : b = -10
  ·subst hb
   go_wp2_with fail
   go_ret
   exact ⟨by simp [absM], rfl⟩
  ·by_cases hq : famH b = -5
   ·go_wp2_with (refine hf.mono ?_; rintro e w' ⟨rfl, rfl⟩)
    go_ret
    exact ⟨by simp [absM, hq], rfl⟩
   ·go_wp2_with (refine hf.mono ?_; rintro e w' ⟨rfl, rfl⟩)
    go_ret
    exact ⟨by simp [absM, hq, hb], rfl⟩
 ·have em : absM a b = absL a b := by unfold absM; rw [if_neg h10]
  have e10 : (a == -10) = false := by simp [h10]
  go_wp2_with fail
  go_loopw [0] (fun v W => ∃ (x : Int), v = .int .i64 x ∧ -12 ≤ x ∧ x ≤ 0 ∧ absL x b = absL a b ∧ W = w) (fun v _ => (-(intOf v)).toNat)
  case atStart => exact ⟨a, rfl, a0, by omega, rfl, rfl⟩
  case round =>
   obtain ⟨x, rfl, x0, x1, hf, rfl⟩ := hrel
   have up := Bn2 x wr x0 x1
   by_cases hx : x = 0
   ·subst hx
    have hb0 : ¬ ((0 : Int) = b) := by omega
    go_wp2_with fail
    go_ret
    refine ⟨?_, rfl⟩
    rw [em, ← hf]
    simp [absL, upH, hb0]
   ·by_cases hxb : x = b
    ·subst hxb
     go_wp2_with fail
     go_ret
     refine ⟨?_, rfl⟩
     rw [em, ← hf]
     simp [absL]
    ·have hg := upH_gt x0 (by omega)
     have hl := absL_up x0 x1 b1 hxb
     have e1 : (x != 0) = true := by simp [hx]
     have e2 : (x != b) = true := by simp [hxb]
     have e3 : (x != 0 && x != b) = true := by rw [e1, e2]; rfl
     go_wp2_with (refine up.mono ?_; rintro e w' ⟨rfl, rfl⟩)
     go_roundw
     case rel => exact ⟨_, rfl, hg.2.2.2, hg.2.1, by rw [hl]; exact hf, trivial⟩
     case measure => simp [intOf]; omega
def flat (l : List S132) : List S123 := l.flatMap (fun r => r.f0)
theorem Ad1 (l : List S132) : (flat l).length = Aa8 l := by
 unfold flat Aa8
 rw [List.length_flatMap]
theorem By9 {l : List S132} {j : Nat} {r : S132} (hr : l[j]? = some r) {o : Nat} (ho : o < r.f0.length) : (flat l)[Aa8 (l.take j) + o]? = r.f0[o]? := by
 have hj := List.getElem?_eq_some_iff.1 hr
 obtain ⟨hjl, he⟩ := hj
 have e : l = l.take j ++ r :: l.drop (j + 1) := by
  subst he
  rw [List.getElem_cons_drop, List.take_append_drop]
 have e2 : flat l = flat (l.take j) ++ (r.f0 ++ flat (l.drop (j + 1))) := by
  conv => lhs; rw [e]
  unfold flat
  rw [List.flatMap_append, List.flatMap_cons]
 rw [e2, List.getElem?_append_right (by rw [Ad1]; omega), Ad1, Nat.add_sub_cancel_left, List.getElem?_append_left ho]
def tyAt (l : List S132) (n : Int) : S123 := Ac2 (flat l) n
def Bx2 (l : List S132) (x y : Nat) : Prop := (oneM l l (x : Int) (y : Int)).1 = true
def Cm9 (l : List S132) (I : List Int) : Prop := I.length = (flat l).length ∧ ∀ x y : Nat, x < (flat l).length → y < (flat l).length → (I[x]? = I[y]? ↔ Bx2 l x y)
structure Ctx (l : List S132) (cb : Nat) (W : World) : Prop where
 ex : ∃ (L : Value) (Ai : Option Addr) (ci : Nat) (Aa : Option Addr) (ca : Nat) (I : List Int), W.heap[cb]? = some (.cells #[L, .slice Ai I.length ci, .slice Aa (flat l).length ca] 178 (0, 0)) ∧ I.length ≤ ci ∧ (flat l).length ≤ ca ∧ Kd.C (Kd.int .i64) W Ai I.length I ∧ Kd.C k123 W Aa (flat l).length (flat l) ∧ Cm9 l I
theorem Ctx.below {l : List S132} {cb : Nat} {W W' : World} (h : Ctx l cb W) (hb : Below W.heap.size W W') : Ctx l cb W' := by
 obtain ⟨L, Ai, ci, Aa, ca, I, h1, h2, h3, h4, h5, h6⟩ := h.ex
 exact ⟨L, Ai, ci, Aa, ca, I, Aa3 h1 hb, h2, h3, Kd.Ab1 h4 hb, Kd.Ab1 h5 hb, h6⟩
def isM (l : List S132) (h : Int) : Bool := decide (-12 ≤ h) && decide (h < ((flat l).length : Int))
def Bl6 (k : Int) : Int := if k = 1 then -1 else if k = 2 then -8 else -9
def Ae9 (l : List S132) (n : Int) : Int := Bl6 (tyAt l n).f2.f0
theorem Ba6 (k : Int) : Bl6 k = -1 ∨ Bl6 k = -8 ∨ Bl6 k = -9 := by unfold Bl6; split; (· simp); split <;> simp
theorem Ag7 (l : List S132) (cb : Nat) (h : Int) (w : World) (hc : Ctx l cb w) : Calls Tryz.prog 166 #[.pointer (some ⟨cb, 0, none⟩), .int .i64 h] w fun e w' => e = .returned (.bool (isM l h)) ∧ w' = w := by
 obtain ⟨L, Ai, ci, Aa, ca, I, h1, h2, h3, h4, h5, h6⟩ := hc.ex
 have x2 : w.cell? ⟨cb, 2, none⟩ = some (.slice Aa (flat l).length ca) := (Aa0 h1 2).trans rfl
 clear h1 h2 h3 h4 h5 h6 hc
 by_cases g : -12 ≤ h
 ·go_enter Tryz.func166, Tryz.ntmps166
  go_wp2_with fail
  go_ret
  exact ⟨by simp [isM, g], rfl⟩
 ·go_enter Tryz.func166, Tryz.ntmps166
  go_wp2_with fail
  go_ret
  exact ⟨by simp [isM]; omega, rfl⟩
theorem Bc1 (l : List S132) (cb : Nat) (n : Int) (w : World) (hc : Ctx l cb w) (n0 : 0 ≤ n) (n1 : n < ((flat l).length : Int)) : Calls Tryz.prog 168 #[.pointer (some ⟨cb, 0, none⟩), .int .i64 n] w fun e w' => e = .returned (.int .i64 (Ae9 l n)) ∧ w' = w := by
 obtain ⟨L, Ai, ci, Aa, ca, I, h1, h2, h3, h4, h5, h6⟩ := hc.ex
 have x2 : w.cell? ⟨cb, 2, none⟩ = some (.slice Aa (flat l).length ca) := (Aa0 h1 2).trans rfl
 obtain ⟨ae, A1', c1, A3, c3, A4, c4, A5, c5, ea, d0, d1, d2, d3, d4, d5, m1, r1, m3, r3, m4, r4, m5, r5⟩ := An8 h5 n n0 n1
 subst ea
 have E : Aa2 (Ae9 l n = Bl6 (Ac2 (flat l) n).f2.f0) := ⟨rfl⟩
 obtain ⟨k, hk⟩ : ∃ k, k = (Ac2 (flat l) n).f2.f0 := ⟨_, rfl⟩
 rw [← hk] at d2 E
 clear h1 h2 h3 h4 h5 h6 hc r1 r3 r4 r5 d0 d1 d3 d4 d5 m1 m3 m4 m5 hk
 by_cases g1 : k = 1
 ·subst g1
  go_enter Tryz.func168, Tryz.ntmps168
  go_wp2_with fail
  go_ret
  exact ⟨by rw [E.out]; rfl, rfl⟩
 ·by_cases g2 : k = 2
  ·subst g2
   go_enter Tryz.func168, Tryz.ntmps168
   go_wp2_with fail
   go_ret
   exact ⟨by rw [E.out]; rfl, rfl⟩
  ·go_enter Tryz.func168, Tryz.ntmps168
   go_wp2_with fail
   go_ret
   exact ⟨by rw [E.out]; simp [Bl6, g1, g2], rfl⟩
def kLent {α : Type} (d : Kd α) (w0 : World) : Kd α where
 sz := d.sz
 E := []
 K := fun _ x cs => d.K w0 x cs
 M := fun _ _ _ x cs => d.K w0 x cs
 K_len := fun h => d.K_len h
 K_one := fun h => d.K_one h
 K_below := fun _ h => h
 K_of_M := fun h => h
 M_mono := fun _ h => h
 M_bound := fun h => h
 M_move := fun _ h => h
 M_lower := fun _ h => h
theorem Ci4 {α : Type} {d : Kd α} {w0 W : World} {A : Option Addr} {n : Nat} {xs : List α} (h : Kd.C (kLent d w0) W A n xs) (hb : Below w0.heap.size w0 W) : Kd.C d W A n xs :=
 Ac9.imp_ (R := d.K w0) (size := d.sz) h (Below.refl _ _) (fun _ _ hp => d.K_below hb hp)
theorem Ck2 {l : List S132} {j : Nat} {r : S132} (h : l[j]? = some r) : flat (l.take (j + 1)) = flat (l.take j) ++ r.f0 := by
 unfold flat
 rw [List.take_add_one, h, List.flatMap_append]
 simp
theorem Bn4 {l : List S132} (hc : Clo l) {g1 : List (List S123)} {i1 : List Int} (h : Aq8 l l = (i1, i1)) {x y : Nat} (hx : x < Aa8 l) (hy : y < Aa8 l) : Bx2 l x y ↔ rd i1 x = rd i1 y := by
 unfold Bx2
 rw [Bu5 hc hc ⟨by omega, by omega, by omega, by omega⟩, h]
 simp
theorem Bw3 {l : List S132} (hc : Clo l) (ht : Aa8 l ≤ 1048576) {m : Int} {g : List (List S123)} {I : List Int} (h : Ae1 m ([], []) l = some (g, I)) : Cm9 l I := by
 obtain ⟨g1, i1, h1, h2⟩ := Bd4 ht
 have hlen : I.length = Aa8 l := by have := (addTo_le m l [] g [] I h).2.2; simpa using this
 refine ⟨by rw [Ad1]; exact hlen, fun x y hx hy => ?_⟩
 rw [Ad1] at hx hy
 rw [Bn4 (g1 := g1) hc h2 hx hy, ← Ck0 hc h h1 Dist.nil Dist.nil x y ⟨by omega, by omega⟩ ⟨by omega, by omega⟩]
 obtain ⟨u, e1⟩ : ∃ u, I[x]? = some u := ⟨_, List.getElem?_eq_getElem (show x < I.length by omega)⟩
 obtain ⟨v, e2⟩ : ∃ v, I[y]? = some v := ⟨_, List.getElem?_eq_getElem (show y < I.length by omega)⟩
 rw [Cb1 I x u (by rw [Int.toNat_natCast]; exact e1), Cb1 I y v (by rw [Int.toNat_natCast]; exact e2), e1, e2]
 simp
def IP (i1 : List Int) (n : Nat) (I : List Int) (k : Nat) : Prop := I.length = n ∧ ∀ x : Nat, x < k → ∃ q : Nat, q ≤ x ∧ I[x]? = some (q : Int) ∧ rd i1 q = rd i1 x ∧ ∀ j : Nat, j < q → rd i1 j ≠ rd i1 x
theorem IP.own {i1 I : List Int} {n k : Nat} (h : IP i1 n I k) (hk : k < n) (hj : ∀ j : Nat, j < k → rd i1 j ≠ rd i1 k) : IP i1 n (I.set k (k : Int)) (k + 1) := by
 refine ⟨by rw [List.length_set]; exact h.1, fun x hx => ?_⟩
 by_cases e : x = k
 ·subst e
  exact ⟨x, Nat.le_refl _, by rw [List.getElem?_set_self (by have := h.1; omega)], rfl, hj⟩
 ·obtain ⟨q, h1, h2, h3, h4⟩ := h.2 x (by omega)
  exact ⟨q, h1, by rw [List.getElem?_set_ne (by omega)]; exact h2, h3, h4⟩
theorem IP.other {i1 I : List Int} {n k q : Nat} (h : IP i1 n I k) (hk : k < n) (hq : q < k) (ht : rd i1 q = rd i1 k) (hj : ∀ j : Nat, j < q → rd i1 j ≠ rd i1 k) : I[q]? = some (q : Int) ∧ IP i1 n ((I.set k (k : Int)).set k (q : Int)) (k + 1) := by
 obtain ⟨q', g1, g2, g3, g4⟩ := h.2 q hq
 have e : q' = q := by
  rcases Nat.lt_or_ge q' q with hlt | hge
  ·exact absurd (g3.trans ht) (hj q' hlt)
  ·omega
 subst e
 refine ⟨g2, by rw [List.length_set, List.length_set]; exact h.1, fun x hx => ?_⟩
 by_cases e : x = k
 ·subst e
  exact ⟨q', by omega, by rw [List.getElem?_set_self (by rw [List.length_set]; have := h.1; omega)], ht, hj⟩
 ·obtain ⟨q, h1, h2, h3, h4⟩ := h.2 x (by omega)
  exact ⟨q, h1, by rw [List.getElem?_set_ne (by omega), List.getElem?_set_ne (by omega)]; exact h2, h3, h4⟩
theorem IP.ok {l : List S132} (hc : Clo l) {g1 : List (List S123)} {i1 I : List Int} (h1 : Aq8 l l = (i1, i1)) (h : IP i1 (Aa8 l) I (Aa8 l)) : Cm9 l I := by
 refine ⟨by rw [Ad1]; exact h.1, fun x y hx hy => ?_⟩
 rw [Ad1] at hx hy
 rw [Bn4 (g1 := g1) hc h1 hx hy]
 obtain ⟨p, a1, a2, a3, a4⟩ := h.2 x hx
 obtain ⟨q, b1, b2, b3, b4⟩ := h.2 y hy
 rw [a2, b2]
 constructor
 ·intro e
  have e' : p = q := by injection e with e; omega
  subst e'
  exact a3.symm.trans b3
 ·intro e
  rcases Nat.lt_trichotomy p q with hlt | rfl | hlt
  ·exact absurd (a3.trans e) (b4 p hlt)
  ·rfl
  ·exact absurd (b3.trans e.symm) (a4 q hlt)
set_option maxHeartbeats 8000000 in
theorem Cj9 (A : Option Addr) (c : Nat) (l : List S132) (n : Nat) (w : World) (hl : LA w A c l) (hc : Clo l) (hn : n = Aa8 l) (htab : Lib.TabBelow Tryz.prog w.heap.size w "internal/strconv.uint64pow10" .u64 Lib.pow10Tab) :
  Calls Tryz.prog 121 #[.slice A l.length c, .int .i64 n] w fun e w' => ∃ v I, e = .returned v ∧ Kd.R (Kd.int .i64) 3 w' w.heap.size (fun _ => True) v I ∧ Cm9 l I ∧ Below w.heap.size w w' := by
 have HL := zA hl
 have HC := zA hc
 have HT := zA htab
 have HN := zA hn
 have htc := Ab4 l
 have hw := hl.w
 have hn0 : n ≤ 1048576 := by omega
 have HTC : Aa2 (Aa8 l ≤ 1048576) := ⟨by omega⟩
 have HWL : Aa2 (wL l ≤ 1048576 ∧ l.length ≤ 1048576) := ⟨by omega, by omega⟩
 clear hl hc htab hn htc hw
 go_enter Tryz.func121, Tryz.ntmps121
 go_wp2_with fail
 refine (Bp5 w HT.out).mono ?_
 rintro e w1 ⟨rfl, ht1, hb1⟩
 have B1 := zA hb1
 have T1 := zA ht1
 clear ht1 hb1
 go_wp2_with fail
 refine (Ca6 w.heap.size (w.heap.size + 1) w.heap.size [] (.slice none 0 0) (.map []) A c l w1 T1.out B1.out.size (HL.out.below B1.out).C HL.out.cap (fun g' b' w' h1 h2 h3 => LR.of_C HL.out.C (fun W hW => (B1.out.trans (h1.mono B1.out.size)).trans (hW.bel.mono (Nat.le_refl _)))) (Bc0 HWL.out.1) (Bc4 HWL.out.1 HL.out.inn) HWL.out.1 HWL.out.2 (by simp [Ab2]) (by simp)).mono ?_
 intro e w2 hout
 unfold Cm0 at hout
 rcases hout with ⟨hnc, _⟩ | ⟨_, hout⟩
 ·exact absurd HC.out hnc
 ·cases hst : Ae1 10000 ([], []) l with
  | some st =>
   obtain ⟨gs', I⟩ := st
   rw [hst] at hout
   obtain ⟨vi, v', b', D', rfl, _, hi, hf⟩ := hout
   have X : Aa2 (Kd.R (Kd.int .i64) 3 w2 w.heap.size (fun _ => True) vi I ∧ Cm9 l I ∧ Below w.heap.size w w2) := ⟨Kd.Ak4 hi B1.out.size, Bw3 HC.out HTC.out hst, B1.out.trans hf.bel⟩
   clear hi hf hst
   obtain ⟨Ai, ci, ev⟩ := Kd.Aa9 X.out.1
   subst ev
   go_wp2_with fail
   go_ret
   exact ⟨_, I, rfl, X.out.1, X.out.2.1, X.out.2.2⟩
  | none =>
   rw [hst] at hout
   obtain ⟨⟨n2, rfl⟩, hf⟩ := hout
   have B2 : Aa2 (Below w.heap.size w w2) := ⟨B1.out.trans hf.bel⟩
   clear hf hst
   go_wp2_with (at_make; refine Kd.Bj8 (Kd.int .i64) (w0 := w) w.heap.size 3 rfl rfl 23 (.tmp 23) (.tmp 23) rfl (n : Int) rfl rfl Tryz.underlying23 (.int .i64 0) 8 Ax8 rfl (by decide) (by decide) 0 (ok := fun _ => True) (okp := fun _ => False) rfl (fun _ h => h.elim) trivial (by omega) (by simp; omega) B2.out B2.out.size ?_; intro v3 w3 ho hb hg hat; simp only [Int.toNat_natCast] at ho; obtain ⟨A3, c3, ev⟩ := Kd.Aa9 ho; rw [List.length_replicate] at ev; subst ev; have R3 := zA ho; have B3 := zA hb; clear ho hb hg hat)
   obtain ⟨g1, i1, _, h2⟩ := Bd4 (l := l) HTC.out
   have HO := zA h2
   clear h2
   go_loopw [27] (fun i W => ∃ (k : Nat) (I : List Int), i = .int .i64 k ∧ k ≤ n ∧ Kd.R (Kd.int .i64) 3 W w.heap.size (fun _ => True) (.slice A3 n c3) I ∧ IP i1 n I k ∧ Below w.heap.size w W) (fun i _ => n - (intOf i).toNat)
   case atStart => exact ⟨0, _, rfl, Nat.zero_le _, R3.out, ⟨by simp, fun x hx => by omega⟩, B3.out⟩
   case round =>
    obtain ⟨k, I, rfl, hk, hr, hip, hb⟩ := hrel
    have R4 := zA hr
    have I4 := zA hip
    have B4 := zA hb
    clear hr hip hb R3 B3 B2 B1 T1
    have k0 : (0 : Int) ≤ (k : Int) := Int.natCast_nonneg k
    by_cases hlk : k < n
    ·have hIl : I.length = n := I4.out.1
     obtain ⟨inn, hown⟩ := Kd.Cm3 R4.out
     obtain ⟨gb, cap, ev, _, _⟩ := hown.form (by omega)
     injection ev with ev1 ev2 ev3
     subst ev1 ev3
     clear hown ev2
     have kl : (k : Int) < (n : Int) := by omega
     have hr' := R4.out
     rw [← hIl] at hr'
     obtain ⟨p1, p2⟩ := Kd.Cm4 (0 : Int) hr' (k : Int) k0 (by omega)
     rw [Int.toNat_natCast] at p1 p2
     have hP := Kd.R_put hr' (k : Int) ((k : Int))
     rw [Int.toNat_natCast, hIl] at hP
     have R5 := zA hP.1
     have B5 : Aa2 (Below w.heap.size w (wr.setCell ⟨gb, k, none⟩ (.int .i64 k))) := ⟨B4.out.trans (Ae7 hP.2 B4.out.size (fun k_ e_ => by injection e_ with e_; subst e_; exact ((Kd.Af6 R4.out).1 _ rfl).2.1))⟩
     clear hr' hP hIl
     go_wp2_with fail
     go_loopw [35] (fun i W => ∃ (q : Nat), i = .int .i64 q ∧ q ≤ k ∧ Kd.R (Kd.int .i64) 3 W w.heap.size (fun _ => True) (.slice (some ⟨gb, 0, none⟩) n c3) (I.set k (k : Int)) ∧ (∀ j : Nat, j < q → rd i1 j ≠ rd i1 k) ∧ Below w.heap.size w W) (fun i _ => k - (intOf i).toNat)
     case atStart => exact ⟨0, rfl, Nat.zero_le _, R5.out, fun j hj => by omega, B5.out⟩
     case round =>
      clear R5 B5 p1 p2
      obtain ⟨q, rfl, hq, hr, hjj, hb⟩ := hrel
      have R6 := zA hr
      have J6 := zA hjj
      have B6 := zA hb
      clear hr hjj hb
      have q0 : (0 : Int) ≤ (q : Int) := Int.natCast_nonneg q
      by_cases hlq : q < k
      ·have qn : (q : Int) < (n : Int) := by omega
       have hone : oneM l l (k : Int) (q : Int) = (rd i1 k == rd i1 q, 0) := by
        have := HN.out
        rw [Bu5 HC.out HC.out ⟨by omega, by omega, by omega, by omega⟩, HO.out]
       by_cases ht : rd i1 q = rd i1 k
       ·rw [ht, beq_self_eq_true] at hone
        obtain ⟨hqv, hnew⟩ := I4.out.other hlk hlq ht J6.out
        have N6 := zA hnew
        have S6 := zA (Bi1 A c l (k : Int) (q : Int) wr (HL.out.below B6.out) (Av2 (HT.out.on B6.out) B6.out.size) true 0 hone)
        clear hone hnew
        go_wp2_with fail
        refine S6.out.mono ?_
        rintro e w7 ⟨rfl, hb7⟩
        have hIl : (I.set k (k : Int)).length = n := by rw [List.length_set]; exact I4.out.1
        have R7 := Kd.Ac5 R6.out hb7
        have hr' := R7
        rw [← hIl] at hr'
        obtain ⟨p1, _⟩ := Kd.Cm4 (0 : Int) hr' (q : Int) q0 (by omega)
        obtain ⟨p3, p4⟩ := Kd.Cm4 (0 : Int) hr' (k : Int) k0 (by omega)
        have hval : rdOf (0 : Int) (I.set k (k : Int)) (q : Int) = (q : Int) := by
         unfold rdOf
         rw [Int.toNat_natCast, List.getD_eq_getElem?_getD, List.getElem?_set_ne (by omega), hqv]
         rfl
        rw [Int.toNat_natCast] at p1 p3 p4
        rw [hval] at p1
        have hP := Kd.R_put hr' (k : Int) ((q : Int))
        rw [Int.toNat_natCast, hIl] at hP
        have R8 := zA hP.1
        have B7 : Aa2 (Below w.heap.size w w7) := ⟨B6.out.trans (hb7.mono B6.out.size)⟩
        have B8 : Aa2 (Below w.heap.size w (w7.setCell ⟨gb, k, none⟩ (.int .i64 q))) := ⟨B7.out.trans (Ae7 hP.2 B7.out.size (fun k_ e_ => by injection e_ with e_; subst e_; exact ((Kd.Af6 R7).1 _ rfl).2.1))⟩
        clear hr' hP hIl hval R7 hb7 S6 hqv
        go_wp2_with fail
        go_roundw
        case rel => exact ⟨k + 1, _, by go_num, by omega, R8.out, N6.out, B8.out⟩
        case measure => simp [intOf]; omega
       ·have hf : (rd i1 k == rd i1 q) = false := by simp [Ne.symm ht]
        rw [hf] at hone
        have S6 := zA (Bi1 A c l (k : Int) (q : Int) wr (HL.out.below B6.out) (Av2 (HT.out.on B6.out) B6.out.size) false 0 hone)
        clear hone hf
        go_wp2_with fail
        refine S6.out.mono ?_
        rintro e w7 ⟨rfl, hb7⟩
        have B7 : Aa2 (Below w.heap.size w w7) := ⟨B6.out.trans (hb7.mono B6.out.size)⟩
        have R7 := zA (Kd.Ac5 R6.out hb7)
        clear hb7 S6
        go_wp2_with fail
        go_roundw
        case rel => exact ⟨q + 1, by go_num, by omega, R7.out, fun j hj => (Nat.lt_or_ge j q).elim (fun h => J6.out j h) (fun h => by have e : j = q := (by omega); rw [e]; exact ht), B7.out⟩
        case measure => simp [intOf]; omega
      ·obtain rfl : q = k := by omega
       have N6 := zA (I4.out.own hlk J6.out)
       clear hq hlq
       go_wp2_with fail
       go_roundw
       case rel => exact ⟨q + 1, _, by go_num, by omega, R6.out, N6.out, B6.out⟩
       case measure => simp [intOf]; omega
    ·obtain rfl : k = n := by omega
     clear hk hlk
     go_wp2_with fail
     go_ret
     refine ⟨_, I, rfl, R4.out, IP.ok HC.out (g1 := g1) HO.out ?_, B4.out⟩
     have := I4.out
     rw [HN.out] at this
     exact this
structure OPs (L : Value) (w : World) (v : Value) (t : List S123) (W : World) : Prop where
 box : W.heap[w.heap.size]? = some (.cells #[L, .slice none 0 0, v] 178 (0, 0))
 row : Kd.R (kLent k123 w) 123 W (w.heap.size + 1) (fun _ => True) v t
 bel : Below w.heap.size w W
theorem OPs.below {L : Value} {w W W' : World} {v : Value} {t : List S123} (h : OPs L w v t W) (hb : Below W.heap.size W W') : OPs L w v t W' := ⟨Aa3 h.box hb, Kd.Ac5 h.row hb, h.bel.trans (hb.mono h.bel.size)⟩
theorem OPs.app {L : Value} {w W W' : World} {v v' : Value} {t t' : List S123} (h : OPs L w v t W) (hr : Kd.R (kLent k123 w) 123 W' (w.heap.size + 1) (fun _ => True) v' t') (hg : W.grownBy W' v.ownBlock) : W'.heap[w.heap.size]? = some (.cells #[L, .slice none 0 0, v] 178 (0, 0)) ∧ OPs L w v' t' (W'.setCell ⟨w.heap.size, 2, none⟩ v') := by
 have hne : some w.heap.size ≠ v.ownBlock := fun e => by
  have := (Kd.Af6 h.row).1 _ e.symm
  omega
 have bo := Ab5 h.box hg hne
 have hbel : Below w.heap.size W W' := Ae7 hg h.bel.size (fun k e => by have := (Kd.Af6 h.row).1 _ e; omega)
 refine ⟨bo, by have := Aa7 bo 2 v'; simpa using this, Kd.Ac3 hr bo (by intro q hq; rcases List.mem_cons.1 hq with rfl | hq; (· decide); cases hq) 2 v', (h.bel.trans hbel).trans ((Below.refl _ _).setCell (p := ⟨w.heap.size, 2, none⟩) (Nat.le_refl _) v')⟩
def OpOut (l : List S132) (w : World) (e : Ending) (w' : World) : Prop :=
 Below w.heap.size w w' ∧ ((Clo l ∧ e = .returned (.tuple #[.pointer (some ⟨w.heap.size, 0, none⟩), .bool true]) ∧ Ctx l w.heap.size w') ∨ (¬ Clo l ∧ e = .returned (.tuple #[.pointer none, .bool false])))
set_option maxHeartbeats 8000000 in
theorem Ay5 (A : Option Addr) (c : Nat) (l : List S132) (w : World) (hl : LA w A c l) (htab : Lib.TabBelow Tryz.prog w.heap.size w "internal/strconv.uint64pow10" .u64 Lib.pow10Tab) :
  Calls Tryz.prog 82 #[.slice A l.length c] w (OpOut l w) := by
 have HL := zA hl
 have HT := zA htab
 have htc := Ab4 l
 have hw := hl.w
 have hll : l.length ≤ 1048576 := by omega
 clear hl htab
 go_enter Tryz.func82, Tryz.ntmps82
 go_wp2_with fail
 have ba : Below w.heap.size w (w.alloc (.cells #[.slice A l.length c, .slice none 0 0, .slice none 0 0] 178)) := bz_
 refine (An4 A c l _ (HL.out.below ba).C HL.out.cap (by omega) (by omega) (Bc0 (by omega))).mono ?_
 rintro e w1 ⟨⟨n1, e1, rfl, h1⟩, hb1⟩
 have T1 : Aa2 (OPs (.slice A l.length c) w (.slice none 0 0) [] w1) := ⟨⟨Aa3 (Aa6 w _) hb1, Kd.Aj9 _ _ _ _ _, ba.trans (hb1.mono ba.size)⟩⟩
 clear hb1 ba
 rcases h1 with ⟨rfl, rfl, hc⟩ | ⟨rfl, hc⟩
 ·have HC := zA hc
  clear hc
  go_wp2_with fail
  go_loopw [21] (fun i W => ∃ (j : Nat) (v : Value), i = .int .i64 j ∧ j ≤ l.length ∧ OPs (.slice A l.length c) w v (flat (l.take j)) W) (fun i _ => l.length - (intOf i).toNat)
  case atStart => exact ⟨0, _, rfl, Nat.zero_le _, T1.out⟩
  case round =>
   clear T1
   obtain ⟨j, v, rfl, hj, hT⟩ := hrel
   have L0 := zA hT
   clear hT
   have j0 : (0 : Int) ≤ (j : Int) := Int.natCast_nonneg j
   by_cases hlt : j < l.length
   ·obtain ⟨lo, hlo⟩ : ∃ lo : List S123, lo = flat (l.take j) := ⟨_, rfl⟩
    rw [← hlo] at L0
    have hlol : lo.length ≤ 1048576 := by rw [hlo, Ad1]; have := Am0 l j l.length hj; rw [List.take_length] at this; omega
    have HLO := zA hlo
    clear hlo
    obtain ⟨Av, cv, hvo⟩ := Kd.Aa9 L0.out.row
    subst hvo
    obtain ⟨ad, A0, c0, ea, d0, d1, hrc, hrC⟩ := Aq1 HL.out.C (j : Int) j0 (by omega)
    subst ea
    have HRJ := zA (Ba2 l j hlt)
    simp only [Int.toNat_natCast] at d0 d1
    obtain ⟨r, hre⟩ : ∃ r, r = Ad5 l (j : Int) := ⟨_, rfl⟩
    rw [← hre] at d0 d1 hrc hrC HRJ
    clear hre
    have hrl : r.f0.length ≤ 1048576 := by have := Ab7 l j r HRJ.out; omega
    replace d0 := (L0.out.bel.cell (World.block_lt_of_cell? w _ d0)).trans d0
    replace d1 := (L0.out.bel.cell (World.block_lt_of_cell? w _ d1)).trans d1
    have HRC := zA hrC
    have jl : (j : Int) < (l.length : Int) := by omega
    have T0' := L0.out.below ((Below.refl wr.heap.size wr).alloc (Nat.le_refl _) (.cells #[.slice A0 r.f0.length c0, .bool r.f1] 132))
    have T0 : OPs _ w (.slice Av lo.length cv) lo (wr.alloc (.cells #[.slice A0 r.f0.length c0, .bool r.f1] 132)).drew := T0'.below ⟨rfl, rfl, rfl, Nat.le_refl _, fun _ _ => rfl⟩
    clear T0'
    have B0 : (wr.alloc (.cells #[.slice A0 r.f0.length c0, .bool r.f1] 132)).drew.heap[wr.heap.size]? = some (.cells #[.slice A0 r.f0.length c0, .bool r.f1] 132 (0, 0)) := Aa6 wr _
    have HSV : Aa2 (some wr.heap.size ≠ (Value.slice Av lo.length cv).ownBlock) := ⟨fun e => by have := Kd.R_lt L0.out.row _ e.symm; omega⟩
    clear hrc hrC
    go_wp2_with fail
    refine Ab3 (n := 11) (S := fun w' => w'.cell? ⟨w.heap.size, 2, none⟩ = some (.slice Av lo.length cv) ∧ w'.cell? ⟨wr.heap.size, 0, none⟩ = some (.slice A0 r.f0.length c0)) (ds := [10]) (bm_ 11 0) (by kernel_rfl) rfl rfl ⟨(Aa0 T0.box 2).trans rfl, (Aa0 B0 0).trans rfl⟩ (fun hHeld => ?_)
    have HW5 : Aa2 (Below w.heap.size wr (wr.alloc (.cells #[.slice A0 r.f0.length c0, .bool r.f1] 132)).drew) := ⟨((Below.refl _ _).alloc L0.out.bel.size _).drew⟩
    generalize World.drew _ = w5 at T0 B0 HW5 hHeld ⊢
    refine pz_ 0 25 11 1 ?_
    refine pz_ 1 26 11 3 ?_
    refine pz_ 2 27 11 7 ?_
    refine pz_ 3 28 11 15 ?_
    refine pz_ 5 30 11 47 ?_
    refine tz_ 4 29 11 63 hHeld ?_
    refine tz_ 6 31 11 127 hHeld ?_
    refine oz_ 7 32 11 255 fun K hK => ?_
    have hsz_ : w.heap.size + 1 ≤ w5.heap.size := Ac0 T0.box
    refine Kd.Aj7 (kLent k123 w) (Rr := k123.K w) (w0 := w5) (w.heap.size + 1) (by rfl) (.tmp 29) (.tmp 31) 130 123 (.agg #[.bool false, .slice none 0 0, .int .i64 0, .slice none 0 0, .slice none 0 0, .slice none 0 0]) 112 rfl Tryz.underlying130 Cj7 rfl (show 0 < 6 by decide) (by omega) (.slice Av lo.length cv) lo r.f0 A0 r.f0.length c0 (fun _ => True) (fun k_ => some k_ ≠ (Value.slice Av lo.length cv).ownBlock) rfl rfl T0.row (Ac9.imp_ HRC.out ((L0.out.bel.mono (Nat.le_refl _)).trans HW5.out) (fun _ _ h_ => h_)) (fun _ _ h_ => h_) (fun k_ hk_ => ⟨trivial, hk_⟩) (fun _ _ => trivial) (Below.refl _ _) hsz_ (by omega) ?_
    intro v5_ w7 ho _ hg hat
    obtain ⟨A5', c5', e5'⟩ := Kd.Aa9 ho
    subst e5'
    obtain ⟨bo, T3⟩ := T0.app ho hg
    have B3 := Ab5 B0 hg HSV.out
    have L3 := zA T3
    refine hK.out _ _ ⟨(Aa0 bo 2).trans rfl, (Aa0 B3 0).trans rfl⟩ (fun hHeld => ?_)
    clear hK K
    refine nz_ ?_
    refine pz_ 8 33 11 511 ?_
    refine pz_ 9 34 11 1023 ?_
    refine Ag8 (i := 10) (N := none) (bm_ 11 2047) rfl rfl (by kernel_rfl) (by decide) (fun K hK => ?_)
    have hs_ : w7.cell? ⟨w.heap.size, 2, none⟩ = some (.slice Av lo.length cv) := (Aa0 bo 2).trans rfl
    have hfs_ : w7.frozen? ⟨w.heap.size, 2, none⟩ = false := Aa1 bo 2
    refine sz_ ?_
    refine hK.out _ _ ?_
    clear hK K
    refine dz_ ?_

    go_wp2_with fail
    go_roundw
    case rel => exact ⟨j + 1, _, by go_num, by omega, by have e_ : flat (l.take (j + 1)) = lo ++ r.f0 := (by rw [Ck2 HRJ.out, HLO.out]); rw [e_, ← List.length_append]; exact L3.out⟩
    case measure => simp [intOf]; omega
   ·obtain rfl : j = l.length := by omega
    rw [List.take_length] at L0
    clear hj hlt
    obtain ⟨Av, cv, hvo⟩ := Kd.Aa9 L0.out.row
    subst hvo
    have x0 : wr.cell? ⟨w.heap.size, 2, none⟩ = some (.slice Av (flat l).length cv) := (Aa0 L0.out.box 2).trans rfl
    have HFL : Aa2 ((flat l).length = Aa8 l) := ⟨Ad1 l⟩
    by_cases hz : 0 < (flat l).length
    ·go_wp2_with fail
     refine (Cj9 A c l _ wr (HL.out.below L0.out.bel) HC.out HFL.out (Av2 (HT.out.on L0.out.bel) L0.out.bel.size)).mono ?_
     rintro e w5 ⟨v5, I, rfl, hr, hi, hb⟩
     have hz0 := Ac0 L0.out.box
     have bx := Aa3 L0.out.box hb
     have y1 : w5.cell? ⟨w.heap.size, 1, none⟩ = some (.slice none 0 0) := (Aa0 bx 1).trans rfl
     have z1 : w5.frozen? ⟨w.heap.size, 1, none⟩ = false := Aa1 bx 1
     obtain ⟨Ai, ci, ev⟩ := Kd.Aa9 hr
     subst ev
     have bx2 := Aa7 bx 1 (.slice Ai I.length ci)
     have hr2 := Kd.Ac3 hr bx (by decide) 1 (.slice Ai I.length ci)
     have rw2 := Kd.Ac3 (Kd.Ac5 L0.out.row hb) bx (by intro q hq; rcases List.mem_cons.1 hq with rfl | hq; (· decide); cases hq) 1 (.slice Ai I.length ci)
     have hbb : Below w.heap.size w (w5.setCell ⟨w.heap.size, 1, none⟩ (.slice Ai I.length ci)) := (L0.out.bel.trans (hb.mono L0.out.bel.size)).trans ((Below.refl _ _).setCell (p := ⟨w.heap.size, 1, none⟩) (Nat.le_refl _) _)
     have X : Aa2 (Ctx l w.heap.size (w5.setCell ⟨w.heap.size, 1, none⟩ (.slice Ai I.length ci))) := ⟨⟨_, Ai, ci, Av, cv, I, by simpa using bx2, (Kd.Ai1 hr2).2.1, (Kd.Ai1 rw2).2.1, (Kd.Ai1 hr2).2.2, Ci4 (Kd.Ai1 rw2).2.2 hbb, hi⟩⟩
     have HB := zA hbb
     clear hr hi hb hz0 bx bx2 hr2 rw2 hbb
     go_wp2_with fail
     go_ret2
     exact ⟨HB.out, .inl ⟨HC.out, rfl, X.out⟩⟩
    ·go_wp2_with fail
     go_ret2
     have hn : (flat l).length = 0 := by omega
     exact ⟨L0.out.bel, .inl ⟨HC.out, rfl, ⟨⟨_, none, 0, Av, cv, [], L0.out.box, Nat.le_refl _, (Kd.Ai1 L0.out.row).2.1, Kd.Az9 _ _, Ci4 (Kd.Ai1 L0.out.row).2.2 L0.out.bel, ⟨hn.symm, fun x y hx _ => by omega⟩⟩⟩⟩⟩
 ·go_wp2_with fail
  go_ret2
  exact ⟨T1.out.bel, .inr ⟨hc, rfl⟩⟩
end Go.Proofs.YtohlmkcgempdlaaGreatDoor.Cn
