/- types.Closed, walked. (Printed by wip/gen_closed.py.) -/
import Derived.Test.YtfgglniigeagdaaDoorCl
import Derived.LoopTactic
namespace Go.Proofs.YtfgglniigeagdaaDoor.Cn
set_option linter.unusedSimpArgs false
set_option linter.unusedVariables false
open Go.RowKit Go.Maps Go.Proofs.YtfgglniigeagdaaDoorW.PrintWords Go.Proofs.YtfgglniigeagdaaDoorW.PrintLast Go.Proofs.YtfgglniigeagdaaDoorW.PrintMore Go.Proofs.YtfgglniigeagdaaDoor.QD
theorem supOk_take (l : List Int) (k : Nat) (y : Int) (h : l[k]? = some y) : supOk (l.take (k + 1)) = (supOk (l.take k) && decide (0 ≤ y)) := by
  rw [List.take_add_one, h]
  simp [supOk]
theorem rd_RT_at (l : List S62) (j : Nat) (h : j < l.length) : l[j]? = some (rd_T62 l (j : Int)) := by simp [rd_T62, List.getD_eq_getElem?_getD, List.getElem?_eq_getElem h]
structure CS (w : World) (en : Int) (W : World) : Prop where
  bel : Below w.heap.size w W
  en : W.heap[w.heap.size]? = some (.cells #[.int .i64 en] 3 (0, 0))
theorem CS.below {w W W' : World} {en : Int} (h : CS w en W) (hb : Below W.heap.size W W') : CS w en W' := ⟨h.bel.trans (hb.mono h.bel.size), blk_below h.en hb⟩
theorem CS.alloc {w W : World} {en : Int} (h : CS w en W) (o : Obj) : CS w en (W.alloc o) := h.below ((Below.refl _ _).alloc (Nat.le_refl _) o)
theorem CS.lt {w W : World} {en : Int} (h : CS w en W) : w.heap.size < W.heap.size := blk_lt h.en
theorem CS.set {w W : World} {en : Int} (h : CS w en W) {g : Nat} (hg : w.heap.size < g) (u : Value) : CS w en (W.setCell ⟨g, 0, none⟩ u) :=
  ⟨h.bel.trans ((Below.refl _ _).setCell (Nat.le_of_lt hg) u), (Below.heap_setCell W ⟨g, 0, none⟩ u _ (by show w.heap.size ≠ g; omega)).trans h.en⟩
set_option maxRecDepth 100000 in
set_option maxHeartbeats 4000000 in
theorem closed_calls (A : Option Addr) (c : Nat) (l : List S62) (w : World) (hr : Kd.C k62 w A l.length l) (hcap : l.length ≤ c) (hl : tcount l ≤ 1099511627776) (hl2 : l.length ≤ 1099511627776) (hq : ∀ r ∈ l, ∀ s ∈ r.f0, SOk (fun _ => True) s) :
    Calls Tryd.prog 25 #[.slice A l.length c] w fun e w' => (∃ (n : Int) (er : Int), e = .returned (.tuple #[.int .i64 n, .int .i64 er]) ∧ ((n = 0 ∧ er = 0 ∧ Clo l) ∨ (er = 50 ∧ ¬ Clo l))) ∧ Below w.heap.size w w' := by
  have HR := Aside0.mk hr
  have HL := Aside0.mk hl
  have HQ := Aside0.mk hq
  have CS0 : CS w 0 (w.alloc (.cells #[.int .i64 0] 3)) := ⟨(Below.refl _ _).alloc (Nat.le_refl _) _, blk_new w _⟩
  clear hr hl hq
  go_enter Tryd.func25, Tryd.ntmps25
  go_wp2_with fail
  go_loopw [15, 4] (fun i n W => ∃ (j : Nat), i = .int .i64 j ∧ j ≤ l.length ∧ n = .int .i64 (tcount (l.take j) : Nat) ∧ CS w (tcount (l.take j) : Nat) W ∧ Clo (l.take j)) (fun i _ _ => l.length - (intOf i).toNat)
  case atStart => exact ⟨0, rfl, Nat.zero_le _, rfl, CS0, fun j r h => by simp at h⟩
  case round =>
    clear CS0
    obtain ⟨j, rfl, hj, rfl, hcs, hclo⟩ := hrel
    have C0 := Aside0.mk hcs
    have HCLO := Aside0.mk hclo
    clear hcs hclo
    by_cases hlt : j < l.length
    · obtain ⟨wo, rfl⟩ : ∃ wo : World, wo = wr := ⟨_, rfl⟩
      obtain ⟨ad, Ar, cr, rfl, d0, d1, hrc, hrC⟩ := at_T62 HR.out (j : Int) (by omega) (by omega)
      have HRJ := Aside0.mk (rd_RT_at l j hlt)
      simp only [Int.toNat_natCast] at d0 d1
      obtain ⟨r, hre⟩ : ∃ r, r = rd_T62 l (j : Int) := ⟨_, rfl⟩
      rw [← hre] at d0 d1 hrc hrC HRJ
      clear hre
      replace d0 := (C0.out.bel.cell (World.block_lt_of_cell? w _ d0)).trans d0
      replace d1 := (C0.out.bel.cell (World.block_lt_of_cell? w _ d1)).trans d1
      have HRC := Aside0.mk hrC
      obtain ⟨n0, hn0⟩ : ∃ n0 : Nat, n0 = tcount (l.take j) := ⟨_, rfl⟩
      have HN0 := Aside0.mk hn0
      rw [← hn0] at C0 ⊢
      have htj : n0 + r.f0.length ≤ 1099511627776 := by have := tcount_take_le l j r HRJ.out; have := HL.out; omega
      clear hrC hn0
      have C1 := Aside0.mk (C0.out.alloc (.cells #[.slice Ar r.f0.length cr, .bool r.f1] 62))
      have B1 := Aside0.mk (blk_new wo (.cells #[.slice Ar r.f0.length cr, .bool r.f1] 62))
      have en1 : (wo.alloc (.cells #[.slice Ar r.f0.length cr, .bool r.f1] 62)).cell? ⟨w.heap.size, 0, none⟩ = some (.int .i64 n0) := (blk_cell C1.out.en 0).trans rfl
      have fz1 : (wo.alloc (.cells #[.slice Ar r.f0.length cr, .bool r.f1] 62)).frozen? ⟨w.heap.size, 0, none⟩ = false := blk_frozen C1.out.en 0
      have hwlt : w.heap.size < wo.heap.size := C0.out.lt
      have hwr : wrap64 ((n0 : Int) + (r.f0.length : Int)) = (n0 : Int) + (r.f0.length : Int) := by unfold wrap64; omega
      have C2a : CS w ((n0 + r.f0.length : Nat) : Int) (wo.setCell ⟨w.heap.size, 0, none⟩ (.int .i64 ((n0 : Int) + (r.f0.length : Int)))) := ⟨C0.out.bel.trans ((Below.refl w.heap.size _).setCell (Nat.le_refl w.heap.size) _), by have := blk_set C0.out.en 0 (.int .i64 ((n0 : Int) + (r.f0.length : Int))); simpa using this⟩
      have C2 := Aside0.mk (C2a.alloc (.cells #[.slice Ar r.f0.length cr, .bool r.f1] 62))
      clear C2a
      go_wp2_with fail
      go_loopw [27, 4] (fun i n W => ∃ (k : Nat), i = .int .i64 k ∧ k ≤ r.f0.length ∧ n = .int .i64 ((n0 + k : Nat) : Int) ∧ CS w ((n0 + r.f0.length : Nat) : Int) W ∧ ∀ s ∈ r.f0.take k, typeOk ((n0 + r.f0.length : Nat) : Int) s = true) (fun i _ _ => r.f0.length - (intOf i).toNat)
      case atStart => exact ⟨0, rfl, Nat.zero_le _, rfl, C2.out, fun s h => by simp at h⟩
      case round =>
        clear en1 fz1 hwlt d0 d1
        obtain ⟨k, rfl, hk, rfl, hcs, hok⟩ := hrel
        have I0 := Aside0.mk hcs
        have HOK := Aside0.mk hok
        clear hcs hok
        by_cases hlk : k < r.f0.length
        · obtain ⟨wi, rfl⟩ : ∃ wi : World, wi = wr := ⟨_, rfl⟩
          obtain ⟨ae, A1, c1, A3, c3, A4, c4, A5, c5, ea, d0, d1, d2, d3, d4, d5, n1, r1, n3, r3, n4, r4, n5, r5⟩ := at_T53 HRC.out (k : Int) (by omega) (by omega)
          have HXK := Aside0.mk (rd_ST_at' r.f0 k hlk)
          cases ea
          simp only [Int.toNat_natCast] at d0 d1 d2 d3 d4 d5
          obtain ⟨x, hx⟩ : ∃ x, x = rd_T53 r.f0 (k : Int) := ⟨_, rfl⟩
          rw [← hx] at d0 d1 d2 d3 d4 d5 n1 r1 n3 r3 n4 r4 n5 r5 HXK
          clear hx
          replace d0 := (I0.out.bel.cell (World.block_lt_of_cell? w _ d0)).trans d0
          replace d1 := (I0.out.bel.cell (World.block_lt_of_cell? w _ d1)).trans d1
          replace d2 := (I0.out.bel.cell (World.block_lt_of_cell? w _ d2)).trans d2
          replace d3 := (I0.out.bel.cell (World.block_lt_of_cell? w _ d3)).trans d3
          replace d4 := (I0.out.bel.cell (World.block_lt_of_cell? w _ d4)).trans d4
          replace d5 := (I0.out.bel.cell (World.block_lt_of_cell? w _ d5)).trans d5
          have R1 := Aside0.mk r1
          have R3 := Aside0.mk r3
          have R4 := Aside0.mk r4
          have R5 := Aside0.mk r5
          have SI := Aside0.mk (HQ.out r (List.mem_of_getElem? HRJ.out) x (List.mem_of_getElem? HXK.out))
          have hx1 : x.f1.length ≤ 17592186044416 := by have := SI.out.l1; omega
          clear r1 r3 r4 r5
          have J1 := Aside0.mk ((I0.out.alloc (.cells #[.bool x.f0, .slice A1 x.f1.length c1, .int .i64 x.f2.f0, .slice A3 x.f2.f1.length c3, .slice A4 x.f2.f2.length c4, .slice A5 x.f2.f3.length c5] 53)).alloc (.cells #[.bool true] 4))
          have BX := Aside0.mk (blk_alloc (blk_new wi (.cells #[.bool x.f0, .slice A1 x.f1.length c1, .int .i64 x.f2.f0, .slice A3 x.f2.f1.length c3, .slice A4 x.f2.f2.length c4, .slice A5 x.f2.f3.length c5] 53)) (.cells #[.bool true] 4))
          have BO : Aside0 (((wi.alloc (.cells #[.bool x.f0, .slice A1 x.f1.length c1, .int .i64 x.f2.f0, .slice A3 x.f2.f1.length c3, .slice A4 x.f2.f2.length c4, .slice A5 x.f2.f3.length c5] 53)).alloc (.cells #[.bool true] 4)).heap[wi.heap.size + 1]? = some (.cells #[.bool true] 4 (0, 0))) := ⟨by have h_ := blk_new (wi.alloc (.cells #[.bool x.f0, .slice A1 x.f1.length c1, .int .i64 x.f2.f0, .slice A3 x.f2.f1.length c3, .slice A4 x.f2.f2.length c4, .slice A5 x.f2.f3.length c5] 53)) (.cells #[.bool true] 4); rw [World.size_alloc] at h_; exact h_⟩
          have WLT : Aside0 (w.heap.size < wi.heap.size) := ⟨I0.out.lt⟩
          go_wp2_with fail
          go_loopw [34] (fun i W => ∃ (q : Nat), i = .int .i64 q ∧ q ≤ x.f1.length ∧ CS w ((n0 + r.f0.length : Nat) : Int) W ∧ W.heap[wi.heap.size]? = some (.cells #[.bool x.f0, .slice A1 x.f1.length c1, .int .i64 x.f2.f0, .slice A3 x.f2.f1.length c3, .slice A4 x.f2.f2.length c4, .slice A5 x.f2.f3.length c5] 53 (0, 0)) ∧ W.heap[wi.heap.size + 1]? = some (.cells #[.bool (supOk (x.f1.take q))] 4 (0, 0))) (fun i _ => x.f1.length - (intOf i).toNat)
          case atStart => exact ⟨0, rfl, Nat.zero_le _, J1.out, BX.out, BO.out⟩
          case round =>
            obtain ⟨q, rfl, hq, hcs, hbx, hbo⟩ := hrel
            have L0 := Aside0.mk hcs
            have LX := Aside0.mk hbx
            have LO := Aside0.mk hbo
            clear hcs hbx hbo d0 d1 d2 d3 d4 d5
            by_cases hlq : q < x.f1.length
            · obtain ⟨ws, rfl⟩ : ∃ ws : World, ws = wr := ⟨_, rfl⟩
              obtain ⟨ai, y, rfl, hy, hc⟩ := at_int' R1.out q hlq
              have HY := Aside0.mk hy
              replace hc := (L0.out.bel.cell (World.block_lt_of_cell? w _ hc)).trans hc
              have ST := Aside0.mk (supOk_take x.f1 q y hy)
              clear hy
              obtain ⟨b, hb⟩ : ∃ b, b = supOk (x.f1.take q) := ⟨_, rfl⟩
              rw [← hb] at LO ST
              clear hb
              have e0 : ws.cell? ⟨wi.heap.size + 1, 0, none⟩ = some (.bool b) := (blk_cell LO.out 0).trans rfl
              have f0 : ws.frozen? ⟨wi.heap.size + 1, 0, none⟩ = false := blk_frozen LO.out 0
              rcases hbb : b with _ | _
              · subst hbb
                go_wp2_with fail
                go_roundw
                case rel =>
                  have e_ : supOk (x.f1.take (q + 1)) = false := by rw [ST.out]; rfl
                  refine ⟨q + 1, by go_num, by omega, L0.out.set (by have := WLT.out; omega) _, (Below.heap_setCell ws ⟨wi.heap.size + 1, 0, none⟩ _ _ (by simp)).trans LX.out, ?_⟩
                  rw [e_]
                  have := blk_set LO.out 0 (.bool false)
                  simpa using this
                case measure => simp [intOf]; omega
              · subst hbb
                by_cases hy0 : 0 ≤ y
                · go_wp2_with fail
                  go_roundw
                  case rel =>
                    have e_ : supOk (x.f1.take (q + 1)) = true := by rw [ST.out]; simp [hy0]
                    refine ⟨q + 1, by go_num, by omega, L0.out.set (by have := WLT.out; omega) _, (Below.heap_setCell ws ⟨wi.heap.size + 1, 0, none⟩ _ _ (by simp)).trans LX.out, ?_⟩
                    rw [e_]
                    have := blk_set LO.out 0 (.bool true)
                    simpa using this
                  case measure => simp [intOf]; omega
                · go_wp2_with fail
                  go_roundw
                  case rel =>
                    have e_ : supOk (x.f1.take (q + 1)) = false := by rw [ST.out]; simp [hy0]
                    refine ⟨q + 1, by go_num, by omega, L0.out.set (by have := WLT.out; omega) _, (Below.heap_setCell ws ⟨wi.heap.size + 1, 0, none⟩ _ _ (by simp)).trans LX.out, ?_⟩
                    rw [e_]
                    have := blk_set LO.out 0 (.bool false)
                    simpa using this
                  case measure => simp [intOf]; omega
            · obtain rfl : q = x.f1.length := by omega
              rw [List.take_length] at LO
              clear hq hlq
              obtain ⟨ws, rfl⟩ : ∃ ws : World, ws = wr := ⟨_, rfl⟩
              have x0 : ws.cell? ⟨wi.heap.size, 0, none⟩ = some (.bool x.f0) := (blk_cell LX.out 0).trans rfl
              have x1 : ws.cell? ⟨wi.heap.size, 1, none⟩ = some (.slice A1 x.f1.length c1) := (blk_cell LX.out 1).trans rfl
              have x2 : ws.cell? ⟨wi.heap.size, 2, none⟩ = some (.int .i64 x.f2.f0) := (blk_cell LX.out 2).trans rfl
              have x3 : ws.cell? ⟨wi.heap.size, 3, none⟩ = some (.slice A3 x.f2.f1.length c3) := (blk_cell LX.out 3).trans rfl
              have x4 : ws.cell? ⟨wi.heap.size, 4, none⟩ = some (.slice A4 x.f2.f2.length c4) := (blk_cell LX.out 4).trans rfl
              have x5 : ws.cell? ⟨wi.heap.size, 5, none⟩ = some (.slice A5 x.f2.f3.length c5) := (blk_cell LX.out 5).trans rfl
              go_wp2_with fail
              have KB := okCb (wi.heap.size + 1) w.heap.size ws.heap.size ((n0 + r.f0.length : Nat) : Int) (by have := WLT.out; omega) (blk_lt LO.out) L0.out.lt
              refine (turned_calls KB w (supOk x.f1) x.f0 x.f2.f0 A1 c1 x.f1 A3 c3 x.f2.f1 A4 c4 x.f2.f2 A5 c5 x.f2.f3 _ (Nat.le_refl _) L0.out.bel (by intro k_ e_; injection e_ with e_; have := WLT.out; omega) ⟨LO.out, L0.out.en⟩ R1.out R3.out R4.out R5.out (fun _ _ => trivial) (fun _ _ _ => trivial) (fun _ _ _ => trivial) (fun _ _ _ => trivial) SI.out.l1 SI.out.l2 SI.out.l3 SI.out.l4).mono ?_
              rintro e w3 ⟨v1, v2, v3, v4, rfl, _, _, _, _, hst, hgr⟩
              have S3 : OkSt (wi.heap.size + 1) w.heap.size ((n0 + r.f0.length : Nat) : Int) (typeOk ((n0 + r.f0.length : Nat) : Int) x) w3 := hst
              have P3 : Aside0 (CS w ((n0 + r.f0.length : Nat) : Int) w3) := ⟨⟨L0.out.bel.trans (bel_of_grown hgr L0.out.bel.size (fun k_ e_ => by injection e_ with e_; have := WLT.out; omega)), S3.en⟩⟩
              have ec : w3.cell? ⟨wi.heap.size + 1, 0, none⟩ = some (.bool (typeOk ((n0 + r.f0.length : Nat) : Int) x)) := (blk_cell S3.ok 0).trans rfl
              clear hst hgr S3 KB
              obtain ⟨b, hb⟩ : ∃ b, b = typeOk ((n0 + r.f0.length : Nat) : Int) x := ⟨_, rfl⟩
              have HB := Aside0.mk hb
              rw [← hb] at ec
              clear hb
              rcases hbb : b with _ | _
              · subst hbb
                go_wp2_with fail
                go_ret2
                refine ⟨⟨_, 50, rfl, Or.inr ⟨rfl, fun h_ => ?_⟩⟩, P3.out.bel⟩
                have h1 := h_ j r HRJ.out x (List.mem_of_getElem? HXK.out)
                rw [tcount_take l j r HRJ.out, ← HN0.out, ← HB.out] at h1
                cases h1
              · subst hbb
                go_wp2_with fail
                go_roundw
                case rel =>
                  refine ⟨k + 1, by go_num, by omega, by go_num, P3.out, fun s hs => ?_⟩
                  rw [List.take_add_one, HXK.out] at hs
                  rcases List.mem_append.1 hs with hs | hs
                  · exact HOK.out s hs
                  · simp at hs
                    subst hs
                    exact HB.out.symm
                case measure => simp [intOf]; omega
        · obtain rfl : k = r.f0.length := by omega
          rw [List.take_length] at HOK
          clear hk hlk
          go_wp2_with fail
          go_roundw
          case rel =>
            refine ⟨j + 1, by go_num, by omega, by rw [tcount_take l j r HRJ.out, ← HN0.out], by rw [tcount_take l j r HRJ.out, ← HN0.out]; exact I0.out, fun i r' h' => ?_⟩
            rw [List.getElem?_take] at h'
            split at h'
            · rename_i hi
              rcases Nat.lt_or_ge i j with h1 | h1
              · have h2 := HCLO.out i r' (by rw [List.getElem?_take, if_pos h1]; exact h')
                rw [List.take_take] at h2 ⊢
                rw [show min (i + 1) j = i + 1 by omega] at h2
                rw [show min (i + 1) (j + 1) = i + 1 by omega]
                exact h2
              · obtain rfl : i = j := by omega
                rw [HRJ.out] at h'
                injection h' with h'
                subst h'
                rw [List.take_take, Nat.min_self, tcount_take l i r HRJ.out, ← HN0.out]
                exact HOK.out
            · cases h'
          case measure => simp [intOf]; omega
    · obtain rfl : j = l.length := by omega
      rw [List.take_length] at HCLO
      clear hj hlt
      go_wp2_with fail
      go_ret2
      exact ⟨⟨0, 0, rfl, Or.inl ⟨rfl, rfl, HCLO.out⟩⟩, C0.out.bel⟩
end Go.Proofs.YtfgglniigeagdaaDoor.Cn
