/- Parts of the proof of subDeep_holds (13 of 16): what it says and shows stands at its declarations. -/
import Derived.Test.YtfgglniigeagdaaDoorZSp12
namespace Go.Proofs.YtfgglniigeagdaaDoor.Cn
set_option linter.unusedSimpArgs false
set_option linter.unusedVariables false
open Go.RowKit Go.Maps Go.Proofs.YtfgglniigeagdaaDoorW.PrintWords Go.Proofs.YtfgglniigeagdaaDoorW.PrintLast Go.Proofs.YtfgglniigeagdaaDoorW.PrintMore Go.Proofs.YtfgglniigeagdaaDoor.QD
/-- Elements that are lent out of a world that was: a row of one's own whose elements point at memory of others. -/
def kLent {α : Type} (d : Kd α) (w0 : World) : Kd α where
  sz := d.sz
  E := []
  K := fun _ x cs => d.K w0 x cs
  M := fun _ _ _ x cs => d.K w0 x cs
  K_len := fun h => d.K_len h
  K_one := fun h => d.K_one h
  K_below := fun _ h => h
  K_of_M := fun h => h
  M_mono := fun _ h => h
  M_bound := fun h => h
  M_move := fun _ h => h
  M_lower := fun _ h => h
theorem kLent_C {α : Type} {d : Kd α} {w0 W : World} {A : Option Addr} {n : Nat} {xs : List α} (h : Kd.C (kLent d w0) W A n xs) (hb : Below w0.heap.size w0 W) : Kd.C d W A n xs :=
  ReadsRow.imp_ (R := d.K w0) (size := d.sz) h (Below.refl _ _) (fun _ _ hp => d.K_below hb hp)
theorem flat_succ {l : List S62} {j : Nat} {r : S62} (h : l[j]? = some r) : flat (l.take (j + 1)) = flat (l.take j) ++ r.f0 := by
  unfold flat
  rw [List.take_add_one, h, List.flatMap_append]
  simp
theorem sameT_iff {l : List S62} (hc : Clo l) {g1 : List (List S53)} {i1 : List Int} (h : oneIds l l = (i1, i1)) {x y : Nat} (hx : x < tcount l) (hy : y < tcount l) : SameT l x y ↔ rd i1 x = rd i1 y := by
  unfold SameT
  rw [oneM_ok hc hc ⟨by omega, by omega, by omega, by omega⟩, h]
  simp
theorem idsOk_added {l : List S62} (hc : Clo l) (ht : tcount l ≤ 1048576) {m : Int} {g : List (List S53)} {I : List Int} (h : addTo m ([], []) l = some (g, I)) : IdsOk l I := by
  obtain ⟨g1, i1, h1, h2⟩ := oneIds_self ht
  have hlen : I.length = tcount l := by have := (addTo_le m l [] g [] I h).2.2; simpa using this
  refine ⟨by rw [flat_length]; exact hlen, fun x y hx hy => ?_⟩
  rw [flat_length] at hx hy
  rw [sameT_iff (g1 := g1) hc h2 hx hy, ← ids_alike hc h h1 Dist.nil Dist.nil x y ⟨by omega, by omega⟩ ⟨by omega, by omega⟩]
  obtain ⟨u, e1⟩ : ∃ u, I[x]? = some u := ⟨_, List.getElem?_eq_getElem (show x < I.length by omega)⟩
  obtain ⟨v, e2⟩ : ∃ v, I[y]? = some v := ⟨_, List.getElem?_eq_getElem (show y < I.length by omega)⟩
  rw [rd_eq I x u (by rw [Int.toNat_natCast]; exact e1), rd_eq I y v (by rw [Int.toNat_natCast]; exact e2), e1, e2]
  simp
/-- The numbers of the first k types are the least types that they are one with. -/
def IP (i1 : List Int) (n : Nat) (I : List Int) (k : Nat) : Prop := I.length = n ∧ ∀ x : Nat, x < k → ∃ q : Nat, q ≤ x ∧ I[x]? = some (q : Int) ∧ rd i1 q = rd i1 x ∧ ∀ j : Nat, j < q → rd i1 j ≠ rd i1 x
theorem IP.own {i1 I : List Int} {n k : Nat} (h : IP i1 n I k) (hk : k < n) (hj : ∀ j : Nat, j < k → rd i1 j ≠ rd i1 k) : IP i1 n (I.set k (k : Int)) (k + 1) := by
  refine ⟨by rw [List.length_set]; exact h.1, fun x hx => ?_⟩
  by_cases e : x = k
  · subst e
    exact ⟨x, Nat.le_refl _, by rw [List.getElem?_set_self (by have := h.1; omega)], rfl, hj⟩
  · obtain ⟨q, h1, h2, h3, h4⟩ := h.2 x (by omega)
    exact ⟨q, h1, by rw [List.getElem?_set_ne (by omega)]; exact h2, h3, h4⟩
theorem IP.other {i1 I : List Int} {n k q : Nat} (h : IP i1 n I k) (hk : k < n) (hq : q < k) (ht : rd i1 q = rd i1 k) (hj : ∀ j : Nat, j < q → rd i1 j ≠ rd i1 k) : I[q]? = some (q : Int) ∧ IP i1 n ((I.set k (k : Int)).set k (q : Int)) (k + 1) := by
  obtain ⟨q', g1, g2, g3, g4⟩ := h.2 q hq
  have e : q' = q := by
    rcases Nat.lt_or_ge q' q with hlt | hge
    · exact absurd (g3.trans ht) (hj q' hlt)
    · omega
  subst e
  refine ⟨g2, by rw [List.length_set, List.length_set]; exact h.1, fun x hx => ?_⟩
  by_cases e : x = k
  · subst e
    exact ⟨q', by omega, by rw [List.getElem?_set_self (by rw [List.length_set]; have := h.1; omega)], ht, hj⟩
  · obtain ⟨q, h1, h2, h3, h4⟩ := h.2 x (by omega)
    exact ⟨q, h1, by rw [List.getElem?_set_ne (by omega), List.getElem?_set_ne (by omega)]; exact h2, h3, h4⟩
theorem IP.ok {l : List S62} (hc : Clo l) {g1 : List (List S53)} {i1 I : List Int} (h1 : oneIds l l = (i1, i1)) (h : IP i1 (tcount l) I (tcount l)) : IdsOk l I := by
  refine ⟨by rw [flat_length]; exact h.1, fun x y hx hy => ?_⟩
  rw [flat_length] at hx hy
  rw [sameT_iff (g1 := g1) hc h1 hx hy]
  obtain ⟨p, a1, a2, a3, a4⟩ := h.2 x hx
  obtain ⟨q, b1, b2, b3, b4⟩ := h.2 y hy
  rw [a2, b2]
  constructor
  · intro e
    have e' : p = q := by injection e with e; omega
    subst e'
    exact a3.symm.trans b3
  · intro e
    rcases Nat.lt_trichotomy p q with hlt | rfl | hlt
    · exact absurd (a3.trans e) (b4 p hlt)
    · rfl
    · exact absurd (b3.trans e.symm) (a4 q hlt)
set_option maxRecDepth 100000 in
set_option maxHeartbeats 8000000 in
theorem ids_calls (A : Option Addr) (c : Nat) (l : List S62) (n : Nat) (w : World) (hl : LA w A c l) (hc : Clo l) (hn : n = tcount l) (htab : Lib.TabBelow Tryd.prog w.heap.size w "internal/strconv.uint64pow10" .u64 Lib.pow10Tab) :
    Calls Tryd.prog 71 #[.slice A l.length c, .int .i64 n] w fun e w' => ∃ v I, e = .returned v ∧ Kd.R (Kd.int .i64) 3 w' w.heap.size (fun _ => True) v I ∧ IdsOk l I ∧ Below w.heap.size w w' := by
  have HL := Aside0.mk hl
  have HC := Aside0.mk hc
  have HT := Aside0.mk htab
  have HN := Aside0.mk hn
  have htc := tcount_le_wL l
  have hw := hl.w
  have hn0 : n ≤ 1048576 := by omega
  have HTC : Aside0 (tcount l ≤ 1048576) := ⟨by omega⟩
  have HWL : Aside0 (wL l ≤ 1048576 ∧ l.length ≤ 1048576) := ⟨by omega, by omega⟩
  clear hl hc htab hn htc hw
  go_enter Tryd.func71, Tryd.ntmps71
  go_wp2_with fail
  refine (new_calls w HT.out).mono ?_
  rintro e w1 ⟨rfl, ht1, hb1⟩
  have B1 := Aside0.mk hb1
  have T1 := Aside0.mk ht1
  clear ht1 hb1
  go_wp2_with fail
  refine (tadd_calls w.heap.size (w.heap.size + 1) w.heap.size [] (.slice none 0 0) (.map []) A c l w1 T1.out B1.out.size (HL.out.below B1.out).C HL.out.cap (fun g' b' w' h1 h2 h3 => LR.of_C HL.out.C (fun W hW => (B1.out.trans (h1.mono B1.out.size)).trans (hW.bel.mono (Nat.le_refl _)))) (sok_all HWL.out.1) (rin_all HWL.out.1 HL.out.inn) HWL.out.1 HWL.out.2 (by simp [manyOf]) (by simp)).mono ?_
  intro e w2 hout
  unfold TAddOut at hout
  rcases hout with ⟨hnc, _⟩ | ⟨_, hout⟩
  · exact absurd HC.out hnc
  · cases hst : addTo 10000 ([], []) l with
    | some st =>
      obtain ⟨gs', I⟩ := st
      rw [hst] at hout
      obtain ⟨vi, v', b', D', rfl, _, hi, hf⟩ := hout
      have X : Aside0 (Kd.R (Kd.int .i64) 3 w2 w.heap.size (fun _ => True) vi I ∧ IdsOk l I ∧ Below w.heap.size w w2) := ⟨Kd.R_lower hi B1.out.size, idsOk_added HC.out HTC.out hst, B1.out.trans hf.bel⟩
      clear hi hf hst
      obtain ⟨Ai, ci, ev⟩ := Kd.R_slice X.out.1
      subst ev
      go_wp2_with fail
      go_ret
      exact ⟨_, I, rfl, X.out.1, X.out.2.1, X.out.2.2⟩
    | none =>
      rw [hst] at hout
      obtain ⟨⟨n2, rfl⟩, hf⟩ := hout
      have B2 : Aside0 (Below w.heap.size w w2) := ⟨B1.out.trans hf.bel⟩
      clear hf hst
      go_wp2_with (at_make; refine Kd.R_make (Kd.int .i64) (w0 := w) w.heap.size 3 rfl rfl 37 (.tmp 23) (.tmp 23) rfl (n : Int) rfl rfl Tryd.underlying37 (.int .i64 0) 8 info3 rfl (by decide) (by decide) 0 (ok := fun _ => True) (okp := fun _ => False) rfl (fun _ h => h.elim) trivial (by omega) (by simp; omega) B2.out B2.out.size ?_; intro v3 w3 ho hb hg hat; simp only [Int.toNat_natCast] at ho; obtain ⟨A3, c3, ev⟩ := Kd.R_slice ho; rw [List.length_replicate] at ev; subst ev; have R3 := Aside0.mk ho; have B3 := Aside0.mk hb; clear ho hb hg hat)
      obtain ⟨g1, i1, _, h2⟩ := oneIds_self (l := l) HTC.out
      have HO := Aside0.mk h2
      clear h2
      go_loopw [27] (fun i W => ∃ (k : Nat) (I : List Int), i = .int .i64 k ∧ k ≤ n ∧ Kd.R (Kd.int .i64) 3 W w.heap.size (fun _ => True) (.slice A3 n c3) I ∧ IP i1 n I k ∧ Below w.heap.size w W) (fun i _ => n - (intOf i).toNat)
      case atStart => exact ⟨0, _, rfl, Nat.zero_le _, R3.out, ⟨by simp, fun x hx => by omega⟩, B3.out⟩
      case round =>
        obtain ⟨k, I, rfl, hk, hr, hip, hb⟩ := hrel
        have R4 := Aside0.mk hr
        have I4 := Aside0.mk hip
        have B4 := Aside0.mk hb
        clear hr hip hb R3 B3 B2 B1 T1
        have k0 : (0 : Int) ≤ (k : Int) := Int.natCast_nonneg k
        by_cases hlk : k < n
        · have hIl : I.length = n := I4.out.1
          obtain ⟨inn, hown⟩ := Kd.R_own R4.out
          obtain ⟨gb, cap, ev, _, _⟩ := hown.form (by omega)
          injection ev with ev1 ev2 ev3
          subst ev1 ev3
          clear hown ev2
          have kl : (k : Int) < (n : Int) := by omega
          have hr' := R4.out
          rw [← hIl] at hr'
          obtain ⟨p1, p2⟩ := Kd.R_cell (0 : Int) hr' (k : Int) k0 (by omega)
          rw [Int.toNat_natCast] at p1 p2
          have hP := Kd.R_put hr' (k : Int) ((k : Int))
          rw [Int.toNat_natCast, hIl] at hP
          have R5 := Aside0.mk hP.1
          have B5 : Aside0 (Below w.heap.size w (wr.setCell ⟨gb, k, none⟩ (.int .i64 k))) := ⟨B4.out.trans (bel_of_grown hP.2 B4.out.size (fun k_ e_ => by injection e_ with e_; subst e_; exact ((Kd.R_bound R4.out).1 _ rfl).2.1))⟩
          clear hr' hP hIl
          go_wp2_with fail
          go_loopw [35] (fun i W => ∃ (q : Nat), i = .int .i64 q ∧ q ≤ k ∧ Kd.R (Kd.int .i64) 3 W w.heap.size (fun _ => True) (.slice (some ⟨gb, 0, none⟩) n c3) (I.set k (k : Int)) ∧ (∀ j : Nat, j < q → rd i1 j ≠ rd i1 k) ∧ Below w.heap.size w W) (fun i _ => k - (intOf i).toNat)
          case atStart => exact ⟨0, rfl, Nat.zero_le _, R5.out, fun j hj => by omega, B5.out⟩
          case round =>
            clear R5 B5 p1 p2
            obtain ⟨q, rfl, hq, hr, hjj, hb⟩ := hrel
            have R6 := Aside0.mk hr
            have J6 := Aside0.mk hjj
            have B6 := Aside0.mk hb
            clear hr hjj hb
            have q0 : (0 : Int) ≤ (q : Int) := Int.natCast_nonneg q
            by_cases hlq : q < k
            · have qn : (q : Int) < (n : Int) := by omega
              have hone : oneM l l (k : Int) (q : Int) = (rd i1 k == rd i1 q, 0) := by
                have := HN.out
                rw [oneM_ok HC.out HC.out ⟨by omega, by omega, by omega, by omega⟩, HO.out]
              by_cases ht : rd i1 q = rd i1 k
              · rw [ht, beq_self_eq_true] at hone
                obtain ⟨hqv, hnew⟩ := I4.out.other hlk hlq ht J6.out
                have N6 := Aside0.mk hnew
                have S6 := Aside0.mk (same_calls A c l (k : Int) (q : Int) wr (HL.out.below B6.out) (tab_mono (HT.out.on B6.out) B6.out.size) true 0 hone)
                clear hone hnew
                go_wp2_with fail
                refine S6.out.mono ?_
                rintro e w7 ⟨rfl, hb7⟩
                have hIl : (I.set k (k : Int)).length = n := by rw [List.length_set]; exact I4.out.1
                have R7 := Kd.R_below R6.out hb7
                have hr' := R7
                rw [← hIl] at hr'
                obtain ⟨p1, _⟩ := Kd.R_cell (0 : Int) hr' (q : Int) q0 (by omega)
                obtain ⟨p3, p4⟩ := Kd.R_cell (0 : Int) hr' (k : Int) k0 (by omega)
                have hval : rdOf (0 : Int) (I.set k (k : Int)) (q : Int) = (q : Int) := by
                  unfold rdOf
                  rw [Int.toNat_natCast, List.getD_eq_getElem?_getD, List.getElem?_set_ne (by omega), hqv]
                  rfl
                rw [Int.toNat_natCast] at p1 p3 p4
                rw [hval] at p1
                have hP := Kd.R_put hr' (k : Int) ((q : Int))
                rw [Int.toNat_natCast, hIl] at hP
                have R8 := Aside0.mk hP.1
                have B7 : Aside0 (Below w.heap.size w w7) := ⟨B6.out.trans (hb7.mono B6.out.size)⟩
                have B8 : Aside0 (Below w.heap.size w (w7.setCell ⟨gb, k, none⟩ (.int .i64 q))) := ⟨B7.out.trans (bel_of_grown hP.2 B7.out.size (fun k_ e_ => by injection e_ with e_; subst e_; exact ((Kd.R_bound R7).1 _ rfl).2.1))⟩
                clear hr' hP hIl hval R7 hb7 S6 hqv
                go_wp2_with fail
                go_roundw
                case rel => exact ⟨k + 1, _, by go_num, by omega, R8.out, N6.out, B8.out⟩
                case measure => simp [intOf]; omega
              · have hf : (rd i1 k == rd i1 q) = false := by simp [Ne.symm ht]
                rw [hf] at hone
                have S6 := Aside0.mk (same_calls A c l (k : Int) (q : Int) wr (HL.out.below B6.out) (tab_mono (HT.out.on B6.out) B6.out.size) false 0 hone)
                clear hone hf
                go_wp2_with fail
                refine S6.out.mono ?_
                rintro e w7 ⟨rfl, hb7⟩
                have B7 : Aside0 (Below w.heap.size w w7) := ⟨B6.out.trans (hb7.mono B6.out.size)⟩
                have R7 := Aside0.mk (Kd.R_below R6.out hb7)
                clear hb7 S6
                go_wp2_with fail
                go_roundw
                case rel => exact ⟨q + 1, by go_num, by omega, R7.out, fun j hj => (Nat.lt_or_ge j q).elim (fun h => J6.out j h) (fun h => by have e : j = q := (by omega); rw [e]; exact ht), B7.out⟩
                case measure => simp [intOf]; omega
            · obtain rfl : q = k := by omega
              have N6 := Aside0.mk (I4.out.own hlk J6.out)
              clear hq hlq
              go_wp2_with fail
              go_roundw
              case rel => exact ⟨q + 1, _, by go_num, by omega, R6.out, N6.out, B6.out⟩
              case measure => simp [intOf]; omega
        · obtain rfl : k = n := by omega
          clear hk hlk
          go_wp2_with fail
          go_ret
          refine ⟨_, I, rfl, R4.out, IP.ok HC.out (g1 := g1) HO.out ?_, B4.out⟩
          have := I4.out
          rw [HN.out] at this
          exact this
/-- While the types are laid together. -/
structure OPs (L : Value) (w : World) (v : Value) (t : List S53) (W : World) : Prop where
  box : W.heap[w.heap.size]? = some (.cells #[L, .slice none 0 0, v] 109 (0, 0))
  row : Kd.R (kLent k53 w) 53 W (w.heap.size + 1) (fun _ => True) v t
  bel : Below w.heap.size w W
theorem OPs.below {L : Value} {w W W' : World} {v : Value} {t : List S53} (h : OPs L w v t W) (hb : Below W.heap.size W W') : OPs L w v t W' := ⟨blk_below h.box hb, Kd.R_below h.row hb, h.bel.trans (hb.mono h.bel.size)⟩
theorem OPs.app {L : Value} {w W W' : World} {v v' : Value} {t t' : List S53} (h : OPs L w v t W) (hr : Kd.R (kLent k53 w) 53 W' (w.heap.size + 1) (fun _ => True) v' t') (hg : W.grownBy W' v.ownBlock) : W'.heap[w.heap.size]? = some (.cells #[L, .slice none 0 0, v] 109 (0, 0)) ∧ OPs L w v' t' (W'.setCell ⟨w.heap.size, 2, none⟩ v') := by
  have hne : some w.heap.size ≠ v.ownBlock := fun e => by
    have := (Kd.R_bound h.row).1 _ e.symm
    omega
  have bo := blk_grown h.box hg hne
  have hbel : Below w.heap.size W W' := bel_of_grown hg h.bel.size (fun k e => by have := (Kd.R_bound h.row).1 _ e; omega)
  refine ⟨bo, by have := blk_set bo 2 v'; simpa using this, Kd.R_set hr bo (by intro q hq; rcases List.mem_cons.1 hq with rfl | hq; (· decide); cases hq) 2 v', (h.bel.trans hbel).trans ((Below.refl _ _).setCell (p := ⟨w.heap.size, 2, none⟩) (Nat.le_refl _) v')⟩
/-- What sub.opened hands back. -/
def OpOut (l : List S62) (w : World) (e : Ending) (w' : World) : Prop :=
  Below w.heap.size w w' ∧ ((Clo l ∧ e = .returned (.tuple #[.pointer (some ⟨w.heap.size, 0, none⟩), .bool true]) ∧ Ctx l w.heap.size w') ∨ (¬ Clo l ∧ e = .returned (.tuple #[.pointer none, .bool false])))
set_option maxRecDepth 100000 in
set_option maxHeartbeats 8000000 in
theorem opened_calls (A : Option Addr) (c : Nat) (l : List S62) (w : World) (hl : LA w A c l) (htab : Lib.TabBelow Tryd.prog w.heap.size w "internal/strconv.uint64pow10" .u64 Lib.pow10Tab) :
    Calls Tryd.prog 53 #[.slice A l.length c] w (OpOut l w) := by
  have HL := Aside0.mk hl
  have HT := Aside0.mk htab
  have htc := tcount_le_wL l
  have hw := hl.w
  have hll : l.length ≤ 1048576 := by omega
  clear hl htab
  go_enter Tryd.func53, Tryd.ntmps53
  go_wp2_with fail
  have ba : Below w.heap.size w (w.alloc (.cells #[.slice A l.length c, .slice none 0 0, .slice none 0 0] 109)) := (Below.refl _ _).alloc (Nat.le_refl _) _
  refine (closed_calls A c l _ (HL.out.below ba).C HL.out.cap (by omega) (by omega) (sok_all (by omega))).mono ?_
  rintro e w1 ⟨⟨n1, e1, rfl, h1⟩, hb1⟩
  have T1 : Aside0 (OPs (.slice A l.length c) w (.slice none 0 0) [] w1) := ⟨⟨blk_below (blk_new w _) hb1, Kd.R_nil _ _ _ _ _, ba.trans (hb1.mono ba.size)⟩⟩
  clear hb1 ba
  rcases h1 with ⟨rfl, rfl, hc⟩ | ⟨rfl, hc⟩
  · have HC := Aside0.mk hc
    clear hc
    go_wp2_with fail
    go_loopw [21] (fun i W => ∃ (j : Nat) (v : Value), i = .int .i64 j ∧ j ≤ l.length ∧ OPs (.slice A l.length c) w v (flat (l.take j)) W) (fun i _ => l.length - (intOf i).toNat)
    case atStart => exact ⟨0, _, rfl, Nat.zero_le _, T1.out⟩
    case round =>
      clear T1
      obtain ⟨j, v, rfl, hj, hT⟩ := hrel
      have L0 := Aside0.mk hT
      clear hT
      have j0 : (0 : Int) ≤ (j : Int) := Int.natCast_nonneg j
      by_cases hlt : j < l.length
      · obtain ⟨lo, hlo⟩ : ∃ lo : List S53, lo = flat (l.take j) := ⟨_, rfl⟩
        rw [← hlo] at L0
        have hlol : lo.length ≤ 1048576 := by rw [hlo, flat_length]; have := tcount_mono l j l.length hj; rw [List.take_length] at this; omega
        have HLO := Aside0.mk hlo
        clear hlo
        obtain ⟨Av, cv, hvo⟩ := Kd.R_slice L0.out.row
        subst hvo
        obtain ⟨ad, A0, c0, ea, d0, d1, hrc, hrC⟩ := at_T62 HL.out.C (j : Int) j0 (by omega)
        subst ea
        have HRJ := Aside0.mk (rd_RT_at l j hlt)
        simp only [Int.toNat_natCast] at d0 d1
        obtain ⟨r, hre⟩ : ∃ r, r = rd_T62 l (j : Int) := ⟨_, rfl⟩
        rw [← hre] at d0 d1 hrc hrC HRJ
        clear hre
        have hrl : r.f0.length ≤ 1048576 := by have := tcount_take_le l j r HRJ.out; omega
        replace d0 := (L0.out.bel.cell (World.block_lt_of_cell? w _ d0)).trans d0
        replace d1 := (L0.out.bel.cell (World.block_lt_of_cell? w _ d1)).trans d1
        have HRC := Aside0.mk hrC
        have jl : (j : Int) < (l.length : Int) := by omega
        have T0' := L0.out.below ((Below.refl wr.heap.size wr).alloc (Nat.le_refl _) (.cells #[.slice A0 r.f0.length c0, .bool r.f1] 62))
        have T0 : OPs _ w (.slice Av lo.length cv) lo (wr.alloc (.cells #[.slice A0 r.f0.length c0, .bool r.f1] 62)).drew := T0'.below ⟨rfl, rfl, rfl, Nat.le_refl _, fun _ _ => rfl⟩
        clear T0'
        have B0 : (wr.alloc (.cells #[.slice A0 r.f0.length c0, .bool r.f1] 62)).drew.heap[wr.heap.size]? = some (.cells #[.slice A0 r.f0.length c0, .bool r.f1] 62 (0, 0)) := blk_new wr _
        have HSV : Aside0 (some wr.heap.size ≠ (Value.slice Av lo.length cv).ownBlock) := ⟨fun e => by have := Kd.R_lt L0.out.row _ e.symm; omega⟩
        clear hrc hrC
        go_wp2_with fail
        refine start_ (n := 11) (S := fun w' => w'.cell? ⟨w.heap.size, 2, none⟩ = some (.slice Av lo.length cv) ∧ w'.cell? ⟨wr.heap.size, 0, none⟩ = some (.slice A0 r.f0.length c0)) (ds := [10]) #[false, false, false, false, false, false, false, false, false, false, false] (by kernel_rfl) rfl rfl ⟨(blk_cell T0.box 2).trans rfl, (blk_cell B0 0).trans rfl⟩ (fun hHeld => ?_)
        have HW5 : Aside0 (Below w.heap.size wr (wr.alloc (.cells #[.slice A0 r.f0.length c0, .bool r.f1] 62)).drew) := ⟨((Below.refl _ _).alloc L0.out.bel.size _).drew⟩
        generalize World.drew _ = w5 at T0 B0 HW5 hHeld ⊢
        refine pure_ (i := 0) (N := some 25) (v := ?_) (a' := ?_) #[true, false, false, false, false, false, false, false, false, false, false] rfl rfl (by kernel_rfl) (fun _ _ _ h => h) (Or.inl ⟨by rfl, ?_⟩) ?_ ?_
        rotate_left
        · intro w'
          go_simp
          with_reducible rfl
        rotate_left
        · simp only [Act.put, List.setIfInBounds_toArray, List.set_cons_zero, List.set_cons_succ, i64_w, i32_w]
          rfl
        refine pure_ (i := 1) (N := some 26) (v := ?_) (a' := ?_) #[true, true, false, false, false, false, false, false, false, false, false] rfl rfl (by kernel_rfl) (fun _ _ _ h => h) (Or.inl ⟨by rfl, ?_⟩) ?_ ?_
        rotate_left
        · intro w'
          go_simp
          with_reducible rfl
        rotate_left
        · simp only [Act.put, List.setIfInBounds_toArray, List.set_cons_zero, List.set_cons_succ, i64_w, i32_w]
          rfl
        refine pure_ (i := 2) (N := some 27) (v := ?_) (a' := ?_) #[true, true, true, false, false, false, false, false, false, false, false] rfl rfl (by kernel_rfl) (fun _ _ _ h => h) (Or.inl ⟨by rfl, ?_⟩) ?_ ?_
        rotate_left
        · intro w'
          go_simp
          with_reducible rfl
        rotate_left
        · simp only [Act.put, List.setIfInBounds_toArray, List.set_cons_zero, List.set_cons_succ, i64_w, i32_w]
          rfl
        refine pure_ (i := 3) (N := some 28) (v := ?_) (a' := ?_) #[true, true, true, true, false, false, false, false, false, false, false] rfl rfl (by kernel_rfl) (fun _ _ _ h => h) (Or.inl ⟨by rfl, ?_⟩) ?_ ?_
        rotate_left
        · intro w'
          go_simp
          with_reducible rfl
        rotate_left
        · simp only [Act.put, List.setIfInBounds_toArray, List.set_cons_zero, List.set_cons_succ, i64_w, i32_w]
          rfl
        refine pure_ (i := 5) (N := some 30) (v := ?_) (a' := ?_) #[true, true, true, true, false, true, false, false, false, false, false] rfl rfl (by kernel_rfl) (fun _ _ _ h => h) (Or.inl ⟨by rfl, ?_⟩) ?_ ?_
        rotate_left
        · intro w'
          go_simp
          with_reducible rfl
        rotate_left
        · simp only [Act.put, List.setIfInBounds_toArray, List.set_cons_zero, List.set_cons_succ, i64_w, i32_w]
          rfl
        refine take_ (i := 4) (N := some 29) (v := ?_) (a' := ?_) #[true, true, true, true, true, true, false, false, false, false, false] rfl rfl (by kernel_rfl) (fun _ _ _ h => h) (Or.inl ⟨by rfl, ?_⟩) hHeld ?_ ?_
        rotate_left
        · rintro w' ⟨s0, s1⟩
          go_simp
          with_reducible rfl
        rotate_left
        · simp only [Act.put, List.setIfInBounds_toArray, List.set_cons_zero, List.set_cons_succ, i64_w, i32_w]
          rfl
        refine take_ (i := 6) (N := some 31) (v := ?_) (a' := ?_) #[true, true, true, true, true, true, true, false, false, false, false] rfl rfl (by kernel_rfl) (fun _ _ _ h => h) (Or.inl ⟨by rfl, ?_⟩) hHeld ?_ ?_
        rotate_left
        · rintro w' ⟨s0, s1⟩
          go_simp
          with_reducible rfl
        rotate_left
        · simp only [Act.put, List.setIfInBounds_toArray, List.set_cons_zero, List.set_cons_succ, i64_w, i32_w]
          rfl
        refine one_ (i := 7) (N := some 32) #[true, true, true, true, true, true, true, true, false, false, false] rfl rfl (by kernel_rfl) (by decide) (fun K hK => ?_)
        have hsz_ : w.heap.size + 1 ≤ w5.heap.size := blk_lt T0.box
        refine Kd.R_append_rows_step (kLent k53 w) (Rr := k53.K w) (w0 := w5) (w.heap.size + 1) (by rfl) (.tmp 29) (.tmp 31) 60 53 (.agg #[.bool false, .slice none 0 0, .int .i64 0, .slice none 0 0, .slice none 0 0, .slice none 0 0]) 112 rfl Tryd.underlying60 infoST rfl (show 0 < 6 by decide) (by omega) (.slice Av lo.length cv) lo r.f0 A0 r.f0.length c0 (fun _ => True) (fun k_ => some k_ ≠ (Value.slice Av lo.length cv).ownBlock) rfl rfl T0.row (ReadsRow.imp_ HRC.out ((L0.out.bel.mono (Nat.le_refl _)).trans HW5.out) (fun _ _ h_ => h_)) (fun _ _ h_ => h_) (fun k_ hk_ => ⟨trivial, hk_⟩) (fun _ _ => trivial) (Below.refl _ _) hsz_ (by omega) ?_
        intro v5_ w7 ho _ hg hat
        obtain ⟨A5', c5', e5'⟩ := Kd.R_slice ho
        subst e5'
        obtain ⟨bo, T3⟩ := T0.app ho hg
        have B3 := blk_grown B0 hg HSV.out
        have L3 := Aside0.mk T3
        refine hK.out _ _ ⟨(blk_cell bo 2).trans rfl, (blk_cell B3 0).trans rfl⟩ (fun hHeld => ?_)
        clear hK K
        refine norm_ (a' := ?_) ?_ ?_
        rotate_left
        · show Act.put _ (some 32) _ = _
          simp only [Act.put, List.setIfInBounds_toArray, List.set_cons_zero, List.set_cons_succ, i64_w, i32_w]
          rfl
        refine pure_ (i := 8) (N := some 33) (v := ?_) (a' := ?_) #[true, true, true, true, true, true, true, true, true, false, false] rfl rfl (by kernel_rfl) (fun _ _ _ h => h) (Or.inl ⟨by rfl, ?_⟩) ?_ ?_
        rotate_left
        · intro w'
          go_simp
          with_reducible rfl
        rotate_left
        · simp only [Act.put, List.setIfInBounds_toArray, List.set_cons_zero, List.set_cons_succ, i64_w, i32_w]
          rfl
        refine pure_ (i := 9) (N := some 34) (v := ?_) (a' := ?_) #[true, true, true, true, true, true, true, true, true, true, false] rfl rfl (by kernel_rfl) (fun _ _ _ h => h) (Or.inl ⟨by rfl, ?_⟩) ?_ ?_
        rotate_left
        · intro w'
          go_simp
          with_reducible rfl
        rotate_left
        · simp only [Act.put, List.setIfInBounds_toArray, List.set_cons_zero, List.set_cons_succ, i64_w, i32_w]
          rfl
        refine last_ (i := 10) (N := none) #[true, true, true, true, true, true, true, true, true, true, true] rfl rfl (by kernel_rfl) (by decide) (fun K hK => ?_)
        have hs_ : w7.cell? ⟨w.heap.size, 2, none⟩ = some (.slice Av lo.length cv) := (blk_cell bo 2).trans rfl
        have hfs_ : w7.frozen? ⟨w.heap.size, 2, none⟩ = false := blk_frozen bo 2
        refine skip_ (w1 := ?_) (by rfl) rfl ?_ ?_
        rotate_left
        · go_simp
          rfl
        refine hK.out _ _ ?_
        clear hK K
        refine done_ (by kernel_rfl) ?_
        
        go_wp2_with fail
        go_roundw
        case rel => exact ⟨j + 1, _, by go_num, by omega, by have e_ : flat (l.take (j + 1)) = lo ++ r.f0 := (by rw [flat_succ HRJ.out, HLO.out]); rw [e_, ← List.length_append]; exact L3.out⟩
        case measure => simp [intOf]; omega
      · obtain rfl : j = l.length := by omega
        rw [List.take_length] at L0
        clear hj hlt
        obtain ⟨Av, cv, hvo⟩ := Kd.R_slice L0.out.row
        subst hvo
        have x0 : wr.cell? ⟨w.heap.size, 2, none⟩ = some (.slice Av (flat l).length cv) := (blk_cell L0.out.box 2).trans rfl
        have HFL : Aside0 ((flat l).length = tcount l) := ⟨flat_length l⟩
        by_cases hz : 0 < (flat l).length
        · go_wp2_with fail
          refine (ids_calls A c l _ wr (HL.out.below L0.out.bel) HC.out HFL.out (tab_mono (HT.out.on L0.out.bel) L0.out.bel.size)).mono ?_
          rintro e w5 ⟨v5, I, rfl, hr, hi, hb⟩
          have hz0 := blk_lt L0.out.box
          have bx := blk_below L0.out.box hb
          have y1 : w5.cell? ⟨w.heap.size, 1, none⟩ = some (.slice none 0 0) := (blk_cell bx 1).trans rfl
          have z1 : w5.frozen? ⟨w.heap.size, 1, none⟩ = false := blk_frozen bx 1
          obtain ⟨Ai, ci, ev⟩ := Kd.R_slice hr
          subst ev
          have bx2 := blk_set bx 1 (.slice Ai I.length ci)
          have hr2 := Kd.R_set hr bx (by decide) 1 (.slice Ai I.length ci)
          have rw2 := Kd.R_set (Kd.R_below L0.out.row hb) bx (by intro q hq; rcases List.mem_cons.1 hq with rfl | hq; (· decide); cases hq) 1 (.slice Ai I.length ci)
          have hbb : Below w.heap.size w (w5.setCell ⟨w.heap.size, 1, none⟩ (.slice Ai I.length ci)) := (L0.out.bel.trans (hb.mono L0.out.bel.size)).trans ((Below.refl _ _).setCell (p := ⟨w.heap.size, 1, none⟩) (Nat.le_refl _) _)
          have X : Aside0 (Ctx l w.heap.size (w5.setCell ⟨w.heap.size, 1, none⟩ (.slice Ai I.length ci))) := ⟨⟨_, Ai, ci, Av, cv, I, by simpa using bx2, (Kd.R_reads' hr2).2.1, (Kd.R_reads' rw2).2.1, (Kd.R_reads' hr2).2.2, kLent_C (Kd.R_reads' rw2).2.2 hbb, hi⟩⟩
          have HB := Aside0.mk hbb
          clear hr hi hb hz0 bx bx2 hr2 rw2 hbb
          go_wp2_with fail
          go_ret2
          exact ⟨HB.out, .inl ⟨HC.out, rfl, X.out⟩⟩
        · go_wp2_with fail
          go_ret2
          have hn : (flat l).length = 0 := by omega
          exact ⟨L0.out.bel, .inl ⟨HC.out, rfl, ⟨⟨_, none, 0, Av, cv, [], L0.out.box, Nat.le_refl _, (Kd.R_reads' L0.out.row).2.1, Kd.C_nil _ _, kLent_C (Kd.R_reads' L0.out.row).2.2 L0.out.bel, ⟨hn.symm, fun x y hx _ => by omega⟩⟩⟩⟩⟩
  · go_wp2_with fail
    go_ret2
    exact ⟨T1.out.bel, .inr ⟨hc, rfl⟩⟩
end Go.Proofs.YtfgglniigeagdaaDoor.Cn
