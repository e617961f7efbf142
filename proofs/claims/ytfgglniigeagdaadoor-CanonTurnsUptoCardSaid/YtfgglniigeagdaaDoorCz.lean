/- Table.Add on a table that was made. ratchetlaw06.alive: the same type twice has one id. CanonZero, walked. -/
import Derived.Test.YtfgglniigeagdaaDoorCopied
import Derived.Test.YtfgglniigeagdaaDoorPl
/- Table.Add on a table that was made. -/
namespace Go.Proofs.YtfgglniigeagdaaDoor.Cn
set_option linter.unusedSimpArgs false
set_option linter.unusedVariables false
open Go.RowKit Go.Maps Go.Proofs.YtfgglniigeagdaaDoorW.PrintWords Go.Proofs.YtfgglniigeagdaaDoorW.PrintLast Go.Proofs.YtfgglniigeagdaaDoorW.PrintMore Go.Proofs.YtfgglniigeagdaaDoor.QD
/-- What Table.Add answers and leaves: c: is the list closed; st: what adding comes to. -/
def TAddOut (B g b : Nat) (gs : List (List S53)) (c : Prop) (st : Option (List (List S53) × List Int)) (w : World) (e : Ending) (w' : World) : Prop :=
  (¬ c ∧ ∃ n : Int, e = .returned (.tuple #[.slice none 0 0, .int .i64 n, .int .i64 50]) ∧ Below w.heap.size w w') ∨
  (c ∧ match st with
    | none => (∃ n : Int, e = .returned (.tuple #[.slice none 0 0, .int .i64 n, .int .i64 2])) ∧ FrA B w.heap.size w.heap.size w w'
    | some (gs', ids) => ∃ (vi v' : Value) (b' : Nat) (D' : DataW Unit), e = .returned (.tuple #[vi, .int .i64 0, .int .i64 0]) ∧ TB B g 47 [.bool true] (fun k => True ∧ some k ≠ vi.ownBlock) gs' v' b' D' w' ∧ Kd.R (Kd.int .i64) 3 w' w.heap.size (fun _ => True) vi ids ∧ FrA B g b w w')
theorem FrA.sub {B g b g' b' : Nat} {w0 w1 W : World} (hb : Below w0.heap.size w0 w1) (h : FrA B g' b' w1 W) (hB : B ≤ w0.heap.size) (hg : w0.heap.size ≤ g') (hb' : w0.heap.size ≤ b') : FrA B g b w0 W :=
  ⟨(hb.mono hB).trans h.bel, fun k o hk h1 h2 h3 => h.oth k o ((hb.block k (Array.getElem?_eq_some_iff.1 hk).1).trans hk) (by have := (Array.getElem?_eq_some_iff.1 hk).1; omega) (by have := (Array.getElem?_eq_some_iff.1 hk).1; omega) h3, hB⟩
set_option maxRecDepth 100000 in
set_option maxHeartbeats 4000000 in
theorem tadd_calls (B g b : Nat) (gs : List (List S53)) (v : Value) (D : DataW Unit) (A : Option Addr) (c : Nat) (l : List S62) (w : World) (hT : TB B g 47 [.bool true] (fun _ => True) gs v b D w) (hB : B ≤ w.heap.size)
    (hC : Kd.C k62 w A l.length l) (hcap : l.length ≤ c) (hLR : ∀ g' b' w1, Below w.heap.size w w1 → w.heap.size ≤ g' → w.heap.size ≤ b' → LR (fun W => FrA B g' b' w1 W) A l)
    (hsok : ∀ r ∈ l, ∀ s ∈ r.f0, SOk (fun _ => True) s) (hin : Clo l → ∀ r ∈ l, ∀ s ∈ r.f0, RIn s) (hw : wL l ≤ 1048576) (hl : l.length ≤ 1048576) (hm0 : manyOf gs ≤ 1099511627776) (hg0 : gs.length ≤ 1099511627776) :
    Calls Tryd.prog 19 #[.pointer (some ⟨g, 0, none⟩), .slice A l.length c] w fun e w' => TAddOut B g b gs (Clo l) (addTo 10000 (gs, []) l) w e w' := by
  have hc3 : w.cell? ⟨g, 3, none⟩ = some (.bool true) := (blk_cell hT.box 3).trans (by simp)
  have HT := Aside0.mk hT
  have HB := Aside0.mk hB
  have HC := Aside0.mk hC
  have HLR := Aside0.mk hLR
  have HSOK := Aside0.mk hsok
  have HIN := Aside0.mk hin
  have HW := Aside0.mk hw
  have HM0 := Aside0.mk hm0
  have HG0 := Aside0.mk hg0
  have HL := Aside0.mk hl
  clear hT hB hC hLR hsok hin hw hm0 hg0
  go_enter Tryd.func19, Tryd.ntmps19
  go_wp2_with fail
  refine (none_made g _ hc3).mono ?_
  rintro e w1 ⟨rfl, hw1⟩
  obtain rfl := hw1.symm
  go_wp2_with fail
  have htc : tcount l ≤ 1048576 := by have := tcount_le_wL l; have := HW.out; omega
  refine (closed_calls A c l _ HC.out hcap (by omega) (by omega) HSOK.out).mono ?_
  rintro e w2 ⟨⟨n, er, rfl, hcl⟩, hb2⟩
  rcases hcl with ⟨rfl, rfl, hclo⟩ | ⟨rfl, hclo⟩
  rotate_left
  · go_wp2_with fail
    go_ret3
    exact Or.inl ⟨hclo, n, rfl, hb2⟩
  have HCLO := Aside0.mk hclo
  have HB2 := Aside0.mk hb2
  have HT2 := Aside0.mk (HT.out.below hb2 HB.out)
  clear hclo hb2 htc
  go_wp2_with fail
  have hBz : B ≤ w2.heap.size := Nat.le_trans HB.out HB2.out.size
  refine (copied_calls B g b 47 [.bool true] gs v D w2 HT2.out hBz HG0.out).mono ?_
  rintro e w3 ⟨v', bm, rfl, hr3, hm3, hbm, hb3⟩
  obtain ⟨A3, c3, e3⟩ := Kd.R_slice hr3
  rw [famsFrom_length] at e3
  subst e3
  have HB3 := Aside0.mk hb3
  have HBZ := Aside0.mk hBz
  have HBM := Aside0.mk hbm
  obtain ⟨mg, hmg⟩ : ∃ mg : Int, mg = manyOf gs := ⟨_, rfl⟩
  have T3 : Aside0 (TB B w3.heap.size 45 [] (fun _ => True) gs (.slice A3 gs.length c3) bm D (w3.alloc (.cells #[.slice A3 gs.length c3, .map (some bm), .int .i64 mg] 45))) := ⟨{
    box := by rw [hmg]; exact blk_new w3 _
    row := Kd.R_below hr3 ((Below.refl _ _).alloc (Nat.le_refl _) _)
    map := hm3.alloc _
    pm := HT2.out.pm
    hg := Nat.le_trans hBz hb3.size
    hb := Nat.le_trans hBz hbm
    tab := (HT2.out.tab.on (hb3.mono hBz)).on ((Below.refl B _).alloc (Nat.le_trans hBz hb3.size) _) }⟩
  have HMG := Aside0.mk hmg
  rw [← hmg]
  clear hr3 hm3 hbm hb3 hBz hmg
  go_wp2_with fail
  have hbw : Below w.heap.size w (w3.alloc (.cells #[.slice A3 gs.length c3, .map (some bm), .int .i64 mg] 45)) := (HB2.out.trans (HB3.out.mono HB2.out.size)).trans ((Below.refl w.heap.size _).alloc (Nat.le_trans HB2.out.size HB3.out.size) _)
  have hz1 : w.heap.size ≤ w3.heap.size := Nat.le_trans HB2.out.size HB3.out.size
  have hz2 : w.heap.size ≤ bm := Nat.le_trans HB2.out.size HBM.out
  have HBW := Aside0.mk hbw
  have HZ1 := Aside0.mk hz1
  have HZ2 := Aside0.mk hz2
  refine (add_calls ⟨B, w3.heap.size, 45, [], gs, bm, l, 10000, w3.alloc (.cells #[.slice A3 gs.length c3, .map (some bm), .int .i64 mg] 45)⟩ _ D A c T3.out (Or.inr rfl) (Nat.le_trans HB.out hbw.size) (HLR.out _ _ _ hbw hz1 hz2) hcap (HIN.out HCLO.out) HW.out HL.out HM0.out HG0.out ⟨by show (0 : Int) ≤ 10000; decide, by show (10000 : Int) ≤ 9223372036854775807; decide⟩).mono ?_
  intro e w4 hout
  unfold AddOut at hout
  dsimp only at hout
  obtain ⟨st, hst⟩ : ∃ st, st = addTo 10000 (gs, []) l := ⟨_, rfl⟩
  rw [← hst] at hout
  have HST := Aside0.mk hst
  clear hst hbw hz1 hz2
  rcases st with _ | ⟨gs', ids⟩
  · obtain ⟨n, gs1, v1, D1, rfl, ht4, hf4⟩ := hout
    have HF := Aside0.mk hf4
    clear ht4 hf4
    have hn0 : (0 : Int) ≤ n := by omega
    go_wp2_with fail
    go_ret3
    refine Or.inr ⟨HCLO.out, ?_⟩
    rw [← HST.out]
    exact ⟨⟨n, rfl⟩, FrA.sub HBW.out HF.out HB.out HZ1.out HZ2.out⟩
  · obtain ⟨v4, D4, vi, rfl, hai⟩ := hout
    have HAI := Aside0.mk hai
    have T4 := Aside0.mk hai.tb
    have HF := Aside0.mk (FrA.sub (g := g) (b := b) HBW.out hai.fr HB.out HZ1.out HZ2.out)
    have hbx := T4.out.box
    dsimp only at hbx
    obtain ⟨q0, q1, q2⟩ := cells3 hbx
    obtain ⟨A4, n4, c4, e4⟩ : ∃ A4 n4 c4, v4 = .slice A4 n4 c4 := by obtain ⟨A4, c4, e4⟩ := Kd.R_slice T4.out.row; exact ⟨_, _, _, e4⟩
    subst e4
    have bx : w4.heap[g]? = some (.cells (v :: .map (some b) :: .int .i64 (manyOf gs) :: [.bool true]).toArray 47 (0, 0)) := by
      refine hai.fr.oth g _ ?_ ?_ ?_ ?_
      · exact (HBW.out.block g (blk_lt HT.out.box)).trans HT.out.box
      · dsimp only; have := HZ1.out; have := blk_lt HT.out.box; omega
      · dsimp only; have := HZ2.out; have := blk_lt HT.out.box; omega
      · intro c_ fz_ e_; injection e_ with _ e_; exact absurd e_ (by decide)
    have BX := Aside0.mk bx
    obtain ⟨m4, hm4⟩ : ∃ m4 : Int, m4 = manyOf gs' := ⟨_, rfl⟩
    rw [← hm4] at q2
    have HM4 := Aside0.mk hm4
    obtain ⟨r0, r1, r2⟩ := cells3 bx
    have f0 : w4.frozen? ⟨g, 0, none⟩ = false := blk_frozen bx 0
    have f1 : w4.frozen? ⟨g, 1, none⟩ = false := blk_frozen bx 1
    have f2 : w4.frozen? ⟨g, 2, none⟩ = false := blk_frozen bx 2
    clear hai hbx bx hm4
    go_wp2_with fail
    go_ret3
    refine Or.inr ⟨HCLO.out, ?_⟩
    rw [← HST.out]
    have b1 := blk_set (blk_set (blk_set BX.out 0 (.slice A4 n4 c4)) 1 (.map (some bm))) 2 (.int .i64 m4)
    have hg : B ≤ g := HT.out.hg
    refine ⟨vi, .slice A4 n4 c4, bm, D4, rfl, ?_, ?_, ?_⟩
    · refine ⟨by rw [← HM4.out]; simpa using b1, ?_, ?_, HAI.out.tb.pm, hg, HAI.out.tb.hb, ?_⟩
      · exact Kd.R_set (Kd.R_set (Kd.R_set T4.out.row BX.out (by decide) 0 _) (blk_set BX.out 0 _) (by decide) 1 _) (blk_set (blk_set BX.out 0 _) 1 _) (by decide) 2 _
      · have hne : bm ≠ g := by have := HZ2.out; have := blk_lt HT.out.box; omega
        have ks : ∀ {W : World} {n : Nat} (i : Nat) (u : Value), W.ownsMap Tryd.prog 9 (plainElem (H := Unit) Tryd.prog 3) bm n D4 → (W.setCell ⟨g, i, none⟩ u).ownsMap Tryd.prog 9 (plainElem (H := Unit) Tryd.prog 3) bm n D4 := fun {W n} i u h => h.kept (row := some g) ⟨rfl, rfl, rfl, by simp, fun k _ hk => Below.heap_setCell W ⟨g, i, none⟩ u k (by rintro rfl; exact hk rfl)⟩ (by intro e; injection e with e; exact hne e)
        exact ks 2 _ (ks 1 _ (ks 0 _ T4.out.map))
      · exact T4.out.tab.on ((((Below.refl B _).setCell (p := ⟨g, 0, none⟩) hg _).setCell (p := ⟨g, 1, none⟩) hg _).setCell (p := ⟨g, 2, none⟩) hg _)
    · exact Kd.R_set (Kd.R_set (Kd.R_set (Kd.R_lower HAI.out.iv (by have := HBW.out.size; exact this)) BX.out (by decide) 0 _) (blk_set BX.out 0 _) (by decide) 1 _) (blk_set (blk_set BX.out 0 _) 1 _) (by decide) 2 _
    · exact ((HF.out.store hg 0 _).store hg 1 _).store hg 2 _
end Go.Proofs.YtfgglniigeagdaaDoor.Cn
/- ratchetlaw06.alive: the same type twice has one id. -/
namespace Go.Proofs.YtfgglniigeagdaaDoor.Cn
set_option linter.unusedSimpArgs false
set_option linter.unusedVariables false
open Go.RowKit Go.Maps Go.Proofs.YtfgglniigeagdaaDoorW.PrintWords Go.Proofs.YtfgglniigeagdaaDoorW.PrintLast Go.Proofs.YtfgglniigeagdaaDoorW.PrintMore Go.Proofs.YtfgglniigeagdaaDoor.QD
theorem cell_of_heap {w w' : World} {p : Addr} (h : w'.heap[p.block]? = w.heap[p.block]?) : w'.cell? p = w.cell? p := by
  unfold World.cell?
  rw [h]
/-- A list that was made is read alike while groups are added. -/
theorem LR.of_R {w w1 : World} {A : Option Addr} {c B0 B g b : Nat} {l : List S62} {ok : Nat → Prop} (hr : Kd.R k62 62 w B0 ok (.slice A l.length c) l) (hw : Below w.heap.size w w1) (hg : w.heap.size ≤ g) (hb : w.heap.size ≤ b) : LR (fun W => FrA B g b w1 W) A l := by
  have kept : ∀ W, FrA B g b w1 W → ∀ k q cells, k < w.heap.size → q ∈ 62 :: k62.E → w.heap[k]? = some (.cells cells q (0, 0)) → W.heap[k]? = w.heap[k]? := by
    intro W hW k q cells hk hq hc
    rw [hc]
    refine hW.oth k _ ((hw.block k hk).trans hc) (by omega) (by omega) ?_
    intro c_ fz_ e
    injection e with _ e _
    subst e
    revert hq
    decide
  have hRW : ∀ W, FrA B g b w1 W → Kd.C k62 W A l.length l := by
    intro W hW
    have h1 := Kd.R_step (Kd.R_bound hr) (w1 := W) (fun k hk hlt => by obtain ⟨_, _, _, q, hq, cells, hc⟩ := hk; exact kept W hW k q cells hlt hq hc)
    obtain ⟨A', c', e, _, h2⟩ := Kd.R_reads h1
    injection e with e
    subst e
    exact h2
  have hC0 : Kd.C k62 w A l.length l := by
    obtain ⟨A', c', e, _, h2⟩ := Kd.R_reads hr
    injection e with e
    subst e
    exact h2
  have hblk : ∀ ad, A = some ad → ∀ W, FrA B g b w1 W → ∀ p : Addr, p.block = ad.block → W.cell? p = w.cell? p := by
    intro ad e W hW p hp
    subst e
    obtain ⟨_, inner, ho, _⟩ := hr
    obtain ⟨cells, hc⟩ := own_typed ho ad.block rfl
    refine cell_of_heap ?_
    rw [hp]
    exact (kept W hW ad.block _ cells (own_lt ho ad.block rfl) (List.mem_cons_self ..) hc)
  have key : ∀ j : Nat, ∃ p : Option Addr × Nat, ∀ r, l[j]? = some r → ∃ ad, A = some ad ∧ w.cell? (ad.add (j * 2)) = some (.slice p.1 r.f0.length p.2) ∧ w.cell? ⟨(ad.add (j * 2)).block, (ad.add (j * 2)).off + 1, none⟩ = some (.bool r.f1) ∧ r.f0.length ≤ p.2 := by
    intro j
    rcases Nat.lt_or_ge j l.length with hj | hj
    · obtain ⟨ad, A0, c0, e, h0, h1, h2, h3⟩ := at_T62 hC0 (j : Int) (by omega) (by omega)
      refine ⟨(A0, c0), fun r hr => ⟨ad, e, ?_⟩⟩
      have e1 : rd_T62 l (j : Int) = r := by
        have := rd_RT_at l j hj
        rw [hr] at this
        injection this with this
        exact this.symm
      rw [e1] at h0 h1 h2
      exact ⟨h0, h1, h2⟩
    · exact ⟨(none, 0), fun r hr => by rw [List.getElem?_eq_none hj] at hr; cases hr⟩
  obtain ⟨hd, hh⟩ := Classical.axiomOfChoice key
  refine ⟨hd, fun j r hrj => ?_⟩
  obtain ⟨ad, e, h0, h1, h2⟩ := hh j r hrj
  refine ⟨ad, e, fun W hW => ?_⟩
  have hj : j < l.length := (List.getElem?_eq_some_iff.1 hrj).1
  obtain ⟨ad', A0', c0', e', g0, g1, g2, g3⟩ := at_T62 (hRW W hW) (j : Int) (by omega) (by omega)
  have e1 : rd_T62 l (j : Int) = r := by
    have := rd_RT_at l j hj
    rw [hrj] at this
    injection this with this
    exact this.symm
  rw [e1] at g0 g1 g2 g3
  rw [e] at e'
  injection e' with e'
  subst e'
  have x0 : W.cell? (ad.add (j * 2)) = some (.slice (hd j).1 r.f0.length (hd j).2) := (hblk ad e W hW (ad.add (j * 2)) (by unfold Addr.add; split <;> rfl)).trans h0
  have x1 : W.cell? ⟨(ad.add (j * 2)).block, (ad.add (j * 2)).off + 1, none⟩ = some (.bool r.f1) := (hblk ad e W hW ⟨(ad.add (j * 2)).block, (ad.add (j * 2)).off + 1, none⟩ (by unfold Addr.add; split <;> rfl)).trans h1
  have g0' : W.cell? (ad.add (j * 2)) = some (.slice A0' r.f0.length c0') := g0
  rw [x0] at g0'
  injection g0' with g0'
  injection g0' with y1 y2 y3
  rw [← y1] at g3
  exact ⟨x0, x1, h2, g3⟩
set_option maxRecDepth 100000 in
theorem count_made {B g b : Nat} {ok : Nat → Prop} {gs : List (List S53)} {v : Value} {D : DataW Unit} (w : World) (h : TB B g 47 [.bool true] ok gs v b D w) : Calls Tryd.prog 23 #[.pointer (some ⟨g, 0, none⟩)] w fun e w' => e = .returned (.int .i64 (manyOf gs)) ∧ w' = w := by
  obtain ⟨_, _, c2⟩ := cells3 h.box
  have hc3 : w.cell? ⟨g, 3, none⟩ = some (.bool true) := (blk_cell h.box 3).trans (by simp)
  obtain ⟨mg, hmg⟩ : ∃ mg : Int, mg = manyOf gs := ⟨_, rfl⟩
  rw [← hmg] at c2 ⊢
  clear h hmg
  go_enter Tryd.func23, Tryd.ntmps23
  go_wp2_with (go_at_call 43; refine (none_made g _ hc3).mono ?_; rintro e w' ⟨rfl, hw_⟩; obtain rfl := hw_.symm)
  go_ret
  exact ⟨rfl, rfl⟩
def stP : S53 := ⟨true, [], ⟨1, [], [], []⟩⟩
def rtP : S62 := ⟨[stP], false⟩
theorem plain_eq : ratchetlaw06_plain.f = some [rtP] := by unfold ratchetlaw06_plain.f; simp [rtP, stP]
theorem clo_P : Clo [rtP, rtP] := by
  intro j r hr s hs
  have h1 : r = rtP := by
    rcases j with _ | _ | j
    · simp at hr; exact hr.symm
    · simp at hr; exact hr.symm
    · simp at hr
  subst h1
  simp only [rtP, List.mem_singleton] at hs
  subst hs
  rfl
theorem in_P : ∀ r ∈ [rtP, rtP], ∀ s ∈ r.f0, RIn s := by
  intro r hr s hs
  simp only [List.mem_cons, List.not_mem_nil, or_false, or_self] at hr
  subst hr
  simp only [rtP, List.mem_singleton] at hs
  subst hs
  exact ⟨⟨by simp [stP], by simp [stP], by simp [stP], by simp [stP], by simp [stP], by simp [stP], by simp [stP], by simp [stP]⟩, by simp [stP, N64], by simp [stP], by simp [stP], by simp [stP]⟩
theorem roll_P (ids : List Int) : ownG ids rtP = [stP] := by
  unfold ownG rtP
  simp only [List.map_cons, List.map_nil, mroll_eq]
  simp [stP]
theorem add_P : addTo 10000 ([], []) [rtP, rtP] = some ([[stP]], [0, 0]) := by
  have h1 : addStep 10000 ([], []) rtP = some ([[stP]], [0]) := by
    unfold addStep
    simp only [roll_P]
    simp [findK, manyOf, idsFrom]
  have h2 : addStep 10000 ([[stP]], [0]) rtP = some ([[stP]], [0, 0]) := by
    unfold addStep
    simp only [roll_P]
    simp [findK, manyOf, idsFrom, firstOf]
  simp only [addTo, h1, h2, Option.bind_some]
set_option maxRecDepth 100000 in
set_option maxHeartbeats 4000000 in
theorem alive_calls (w : World) (htab : Lib.TabBelow Tryd.prog w.heap.size w "internal/strconv.uint64pow10" .u64 Lib.pow10Tab) : Calls Tryd.prog 17 #[] w fun e w' => e = .returned (.bool true) ∧ Below w.heap.size w w' := by
  have HTAB := Aside0.mk htab
  clear htab
  go_enter Tryd.func17, Tryd.ntmps17
  go_wp2_with fail
  refine (new_calls w HTAB.out).mono ?_
  rintro e w1 ⟨rfl, ht1, hb1⟩
  have T1 := Aside0.mk ht1
  have B1 := Aside0.mk hb1
  clear ht1 hb1
  go_wp2_with fail
  refine (ratchetlaw06_plain.calls _ w1 plain_eq).mono ?_
  rintro e w2 ⟨vl, rfl, hr2, hb2⟩
  have T2 := Aside0.mk (T1.out.below hb2 B1.out.size)
  have B2 := Aside0.mk (B1.out.trans (hb2.mono B1.out.size))
  have hz12 : w1.heap.size ≤ w2.heap.size := hb2.size
  obtain ⟨Al, cl, hvl, hcl, hC⟩ := Kd.R_reads hr2
  subst hvl
  have HR2 := Aside0.mk hr2
  obtain ⟨ad, A0, c0, e0, d0, d1, hc0, hC0⟩ := at_T62 hC 0 (by decide) (by decide)
  subst e0
  have ev : rd_T62 [rtP] 0 = rtP := rfl
  rw [ev] at d0 d1 hc0 hC0
  have d0' : w2.cell? ad = some (.slice A0 1 c0) := d0
  have d1' : w2.cell? ⟨ad.block, ad.off + 1, none⟩ = some (.bool false) := d1
  have hinner : Kd.R k53 53 w2 w1.heap.size (fun k => True ∧ some k ≠ (Value.slice (some ad) 1 cl).ownBlock) (.slice A0 1 c0) [stP] := by
    obtain ⟨A', c', e1, _, hrd⟩ := OwnRow.reads HR2.out.2
    injection e1 with e1
    subst e1
    obtain ⟨ad', cs, e2, _, hM, hcell⟩ := ReadsRow.get_ hrd rtP 0 (by decide) (by decide)
    injection e2 with e2
    subst e2
    obtain ⟨v0, e3, hv0⟩ := k62_openM hM
    subst e3
    have h0 : w2.cell? ad = some v0 := hcell 0 v0 rfl
    rw [d0'] at h0
    injection h0 with h0
    subst h0
    exact hv0
  have HIN := Aside0.mk hinner
  have HZ := Aside0.mk hz12
  clear hr2 hb2 hC d0 d1 hC0 hinner ev hz12
  have hl1 : ([rtP] : List S62).length = 1 := rfl
  rw [hl1] at hcl
  clear hl1
  go_wp2_with (at_builtin; refine Kd.R_append k62 (w0 := w2) w1.heap.size rfl (.tmp 12) (.tmp 16) 22 62 (.agg #[.slice none 0 0, .bool false]) 32 rfl Tryd.underlying22 info62 rfl (by decide) (by decide) (.slice (some ad) 1 cl) [rtP] rtP [.slice A0 1 c0, .bool false] (fun _ => True) (fun k => True ∧ some k ≠ (Value.slice (some ad) 1 cl).ownBlock) rfl rfl (k62_mkM w2 w1.heap.size _ rtP HIN.out) (fun _ hk => hk) (fun _ _ => trivial) HR2.out (Below.refl _ _) HZ.out (by decide) ?_; intro v3 w3 hr3 hb3 hg3 hat3; obtain ⟨A3, c3, e3⟩ := Kd.R_slice hr3; subst e3; have HR3 := Aside0.mk hr3; have HB3 := Aside0.mk hb3; have HG3 := Aside0.mk hg3; clear hr3 hb3 hg3 hat3)
  have T3 : Aside0 (TB w.heap.size (w.heap.size + 1) 47 [.bool true] (fun _ => True) [] (.slice none 0 0) w.heap.size (.map []) w3) := ⟨(TB.grown (ok := fun _ => False) ⟨T2.out.box, Kd.R_nil _ _ _ _ _, T2.out.map, T2.out.pm, T2.out.hg, T2.out.hb, T2.out.tab⟩ HR2.out B1.out.size (by decide) HG3.out (fun _ hk => hk.elim)).weak (fun _ hk => hk.elim)⟩
  have hsz3 : w.heap.size ≤ w3.heap.size := Nat.le_trans (Nat.le_trans B1.out.size HZ.out) HG3.out.size
  have B3 : Aside0 (Below w.heap.size w w3) := ⟨B2.out.trans (bel_of_grown HG3.out (Nat.le_trans B1.out.size HZ.out) (fun k e => by have := own_base' HR2.out k e; have := B1.out.size; omega))⟩
  obtain ⟨A3', c3', e4, hcap3, hC3⟩ := Kd.R_reads HR3.out
  injection e4 with e4 e5 e6
  subst e4 e6
  have HC3 := Aside0.mk hC3
  have HS3 := Aside0.mk hsz3
  clear hC3 hsz3 e5
  refine (tadd_calls w.heap.size (w.heap.size + 1) w.heap.size [] (.slice none 0 0) (.map []) A3 c3 ([rtP] ++ [rtP]) w3 T3.out HS3.out HC3.out hcap3 (fun g' b' w1' h1 h2 h3 => LR.of_R HR3.out h1 h2 h3) (fun r hr s hs => (in_P r hr s hs).ok.imp (fun _ _ => trivial)) (fun _ => in_P) (by decide) (by decide) (by decide) (by decide)).mono ?_
  intro e w4 hout
  unfold TAddOut at hout
  rcases hout with ⟨hn, _⟩ | ⟨_, hout⟩
  · exact absurd clo_P hn
  rw [show addTo 10000 ([], []) ([rtP] ++ [rtP]) = some ([[stP]], [0, 0]) from add_P] at hout
  obtain ⟨vi, v', b', D', rfl, ht4, hi4, hf4⟩ := hout
  obtain ⟨Ai, ci, evi, hci, hCi⟩ := Kd.R_reads hi4
  subst evi
  obtain ⟨ai, ei, x0⟩ := Kd.at_int hCi 0 (by decide) (by decide)
  obtain ⟨ai', ei', x1⟩ := Kd.at_int hCi 1 (by decide) (by decide)
  subst ei
  injection ei' with ei'
  subst ei'
  have x0' : w4.cell? ai = some (.int .i64 0) := x0
  have x1' : w4.cell? ⟨ai.block, ai.off + 1, none⟩ = some (.int .i64 0) := x1
  have hl2 : ([0, 0] : List Int).length = 2 := rfl
  rw [hl2] at hci
  have T4 := Aside0.mk ht4
  have F4 := Aside0.mk hf4.bel
  clear ht4 hi4 hf4 hCi x0 x1 hl2
  go_wp2_with (go_at_call 23; refine (count_made w4 T4.out).mono ?_; rintro e w' ⟨rfl, hw_⟩; obtain rfl := hw_.symm)
  go_ret
  exact ⟨rfl, B3.out.trans F4.out⟩
end Go.Proofs.YtfgglniigeagdaaDoor.Cn
/- CanonZero, walked. -/
namespace Go.Proofs.YtfgglniigeagdaaDoor.Cn
set_option linter.unusedSimpArgs false
set_option linter.unusedVariables false
open Go.RowKit Go.Maps Go.Proofs.YtfgglniigeagdaaDoorW.PrintWords Go.Proofs.YtfgglniigeagdaaDoorW.PrintLast Go.Proofs.YtfgglniigeagdaaDoorW.PrintMore Go.Proofs.YtfgglniigeagdaaDoor.QD
set_option maxRecDepth 100000 in
set_option maxHeartbeats 4000000 in
theorem canonZero_calls (A : Option Addr) (n c : Nat) (id : Int) (w : World) (htab : Lib.TabBelow Tryd.prog w.heap.size w "internal/strconv.uint64pow10" .u64 Lib.pow10Tab) : Calls Tryd.prog 5 #[.slice A n c, .int .i64 id] w fun e w' => e = .returned (.bool true) ∧ Below w.heap.size w w' := by
  have HT := Aside0.mk htab
  clear htab
  go_enter Tryd.func5, Tryd.ntmps5
  go_wp2_with fail
  refine (alive_calls w HT.out).mono ?_
  rintro e w1 ⟨rfl, hb1⟩
  have B1 := Aside0.mk hb1
  have Z1 : Aside0 (Zt (w1.alloc (.cells #[.slice none 0 0, .map none, .int .i64 0, .bool false] 47)) (.pointer (some ⟨w1.heap.size, 0, none⟩))) := ⟨.cell _ ((blk_cell (blk_new w1 _) 3).trans rfl)⟩
  have D1 : Aside0 (Below w.heap.size w (w1.alloc (.cells #[.slice none 0 0, .map none, .int .i64 0, .bool false] 47))) := ⟨hb1.trans ((Below.refl w.heap.size _).alloc hb1.size _)⟩
  clear hb1
  go_wp2_with fail
  refine (add_zero' A n c _ .nil).mono ?_
  rintro e w2 ⟨rfl, hb⟩
  have Z2 := Aside0.mk (Z1.out.below hb)
  have D2 := Aside0.mk (D1.out.trans (hb.mono D1.out.size))
  clear hb
  go_wp2_with fail
  refine (add_zero' A n c _ Z2.out).mono ?_
  rintro e w3 ⟨rfl, hb⟩
  have Z3 := Aside0.mk (Z2.out.below hb)
  have D3 := Aside0.mk (D2.out.trans (hb.mono D2.out.size))
  clear hb
  go_wp2_with fail
  refine (type_zero id _ .nil).mono ?_
  rintro e w4 ⟨rfl, hb⟩
  have Z4 := Aside0.mk ((Z3.out.below hb).alloc (.cells #[.bool false, .slice none 0 0, .int .i64 0, .slice none 0 0, .slice none 0 0, .slice none 0 0] 53))
  have D4 : Aside0 (Below w.heap.size w (w4.alloc (.cells #[.bool false, .slice none 0 0, .int .i64 0, .slice none 0 0, .slice none 0 0, .slice none 0 0] 53))) := ⟨(D3.out.trans (hb.mono D3.out.size)).trans ((Below.refl w.heap.size _).alloc (Nat.le_trans D3.out.size hb.size) _)⟩
  clear hb
  go_wp2_with fail
  refine (type_zero id _ Z4.out).mono ?_
  rintro e w5 ⟨rfl, hb⟩
  have Z5 := Aside0.mk ((Z4.out.below hb).alloc (.cells #[.bool false, .slice none 0 0, .int .i64 0, .slice none 0 0, .slice none 0 0, .slice none 0 0] 53))
  have D5 : Aside0 (Below w.heap.size w (w5.alloc (.cells #[.bool false, .slice none 0 0, .int .i64 0, .slice none 0 0, .slice none 0 0, .slice none 0 0] 53))) := ⟨(D4.out.trans (hb.mono D4.out.size)).trans ((Below.refl w.heap.size _).alloc (Nat.le_trans D4.out.size hb.size) _)⟩
  clear hb
  go_wp2_with fail
  refine (group_zero id _ .nil).mono ?_
  rintro e w6 ⟨rfl, hb⟩
  have Z6 := Aside0.mk (Z5.out.below hb)
  have D6 := Aside0.mk (D5.out.trans (hb.mono D5.out.size))
  clear hb
  go_wp2_with fail
  refine (group_zero id _ Z6.out).mono ?_
  rintro e w7 ⟨rfl, hb⟩
  have Z7 := Aside0.mk (Z6.out.below hb)
  have D7 := Aside0.mk (D6.out.trans (hb.mono D6.out.size))
  clear hb
  go_wp2_with (first | (go_at_call 23; refine (count_zero w7 (by first | exact .nil | exact Z7.out)).mono ?_; rintro e w' ⟨rfl, hw_⟩; obtain rfl := hw_.symm) | (go_at_call 24; refine (copy_zero w7 (by first | exact .nil | exact Z7.out)).mono ?_; rintro e w' ⟨rfl, hw_⟩; obtain rfl := hw_.symm))
  go_ret
  exact ⟨rfl, D7.out⟩
end Go.Proofs.YtfgglniigeagdaaDoor.Cn
