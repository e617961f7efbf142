/- parts.add: groups are added to a table. (Printed by wip/gen_add.py.) -/
import Derived.Test.YtfgglniigeagdaaDoorTf
import Derived.Test.YtfgglniigeagdaaDoorWMore
import Derived.Test.YtfgglniigeagdaaDoorWTab
import Derived.LoopTactic
import Derived.Laws.EntriesVeiled
namespace Go.Proofs.YtfgglniigeagdaaDoor.Cn
set_option linter.unusedSimpArgs false
set_option linter.unusedVariables false
open Go.RowKit Go.Maps Go.Proofs.YtfgglniigeagdaaDoorW.PrintWords Go.Proofs.YtfgglniigeagdaaDoorW.PrintLast Go.Proofs.YtfgglniigeagdaaDoorW.PrintMore Go.Proofs.YtfgglniigeagdaaDoor.QD
theorem rd_ST_at' (l : List S53) (j : Nat) (h : j < l.length) : l[j]? = some (rd_T53 l (j : Int)) := by simp [rd_T53, List.getD_eq_getElem?_getD, List.getElem?_eq_getElem h]
set_option maxRecDepth 100000 in
set_option maxHeartbeats 8000000 in
theorem add_calls (X : AX) (v0 : Value) (D0 : DataW Unit) (A : Option Addr) (c : Nat) (hT : TB X.B X.g X.t X.rest (fun _ => True) X.gs0 v0 X.b D0 X.w) (ht : TabTy X.t) (hB : X.B ≤ X.w.heap.size) (hL : LR (fun W => FrA X.B X.g X.b X.w W) A X.l)
    (hcap : X.l.length ≤ c) (hin : ∀ r ∈ X.l, ∀ s ∈ r.f0, RIn s) (hw : wL X.l ≤ 1048576) (hl : X.l.length ≤ 1048576) (hm0 : manyOf X.gs0 ≤ 1099511627776) (hg0 : X.gs0.length ≤ 1099511627776) (hmost : 0 ≤ X.most ∧ X.most ≤ 9223372036854775807) :
    Calls Tryd.prog 40 #[.pointer (some ⟨X.g, 0, none⟩), .slice A X.l.length c, .int .i64 X.most] X.w fun e w' => AddOut X (addTo X.most (X.gs0, []) X.l) e w' := by
  obtain ⟨B, g, t, rest, gs0, b, l, most, w⟩ := X
  dsimp only at *
  have HT := Aside0.mk ht
  have HZ := Aside0.mk hB
  have HLR := Aside0.mk hL
  have HIN := Aside0.mk hin
  have HW := Aside0.mk hw
  have HM0 := Aside0.mk hm0
  have HG0 := Aside0.mk hg0
  have HT0 := Aside0.mk hT
  obtain ⟨X, hX⟩ : ∃ X : AX, X = ⟨B, g, t, rest, gs0, b, l, most, w⟩ := ⟨_, rfl⟩
  have HX := Aside0.mk hX
  have TS : AI X gs0 v0 D0 (.slice none 0 0) [] w := by
    rw [hX]
    exact ⟨hT.weak (fun k _ => ⟨trivial, by simp [Value.ownBlock]⟩), Kd.R_nil _ _ _ _ _, FrA.refl hB⟩
  clear ht hL hin hw hm0 hg0 hT hB hX
  obtain ⟨m0, m1⟩ := hmost
  rw [← HX.out]
  go_enter Tryd.func40, Tryd.ntmps40
  go_wp2_with fail
  go_loopw [21, 8] (fun i vi W => ∃ (j : Nat) (gs : List (List S53)) (v : Value) (D : DataW Unit) (ids : List Int), i = .int .i64 j ∧ j ≤ l.length ∧ addTo most (gs0, []) (l.take j) = some (gs, ids) ∧ AI X gs v D vi ids W ∧ AB2 (manyOf gs0) (tcount (l.take j)) (gs, ids) ∧ gs.length ≤ gs0.length + j) (fun i _ _ => l.length - (intOf i).toNat)
  case atStart => exact ⟨0, gs0, _, _, [], rfl, Nat.zero_le _, rfl, TS, AB2.start gs0, Nat.le_refl _⟩
  case round =>
    clear TS
    obtain ⟨j, gs, v, D, ids, rfl, hj, hst, hAI, hab, hgl⟩ := hrel
    have HST := Aside0.mk hst
    have HAB := Aside0.mk hab
    have HGL := Aside0.mk hgl
    have A0 := Aside0.mk hAI
    clear hst hab hgl hAI
    by_cases hlt : j < l.length
    · obtain ⟨wo, rfl⟩ : ∃ wo : World, wo = wr := ⟨_, rfl⟩
      obtain ⟨r, hr⟩ : ∃ r, l[j]? = some r := ⟨_, List.getElem?_eq_getElem hlt⟩
      obtain ⟨hd, hh⟩ := HLR.out
      obtain ⟨ad, rfl, hall⟩ := hh j r hr
      obtain ⟨hc0, hc1, hc2, hc3⟩ := hall wo (by have := A0.out.fr; rw [HX.out] at this; exact this)
      have HR := Aside0.mk hr
      have HALL := Aside0.mk hall
      have hrl : r.f0.length ≤ 1048576 := by have h1 := tcount_take_le l j r hr; have h2 := tcount_le_wL l; have h3 := HW.out; omega
      obtain ⟨⟨Ar, cr⟩, hrr⟩ : ∃ p : Option Addr × Nat, p = hd j := ⟨_, rfl⟩
      rw [← hrr] at hc0 hc2
      dsimp only at hc0 hc2
      clear hr hall hc3 hh
      have A1 := Aside0.mk (A0.out.below ((Below.refl wo.heap.size wo).alloc (Nat.le_refl _) (.cells #[.slice Ar r.f0.length cr, .bool r.f1] 62)))
      have BR := Aside0.mk (blk_new wo (.cells #[.slice Ar r.f0.length cr, .bool r.f1] 62))
      obtain ⟨Ai, ci, hvi⟩ := Kd.R_slice A0.out.iv
      subst hvi
      go_wp2_with fail
      have hci : Kd.C (Kd.int .i64) (wo.alloc (.cells #[.slice Ar r.f0.length cr, .bool r.f1] 62)) Ai ids.length ids := by obtain ⟨_, _, e1, _, h1⟩ := Kd.R_reads A1.out.iv; injection e1 with e1 e2 e3; subst e1; exact h1
      refine (rolled_calls ids Ai ci _ hci).mono ?_
      rintro e w2 ⟨fv, rfl, hb2, C⟩
      have A2 := Aside0.mk (A1.out.below hb2)
      have hc4 : w2.cell? ⟨wo.heap.size, 0, none⟩ = some (.slice Ar r.f0.length cr) := (blk_cell (blk_below BR.out hb2) 0).trans rfl
      have HZ2 : Aside0 (X.w.heap.size ≤ w2.heap.size) := ⟨by have h1 := A2.out.fr.bel.size; rw [HX.out] at h1 ⊢; exact h1⟩
      have CC := Aside0.mk C
      clear C hb2 hci hc0 hc1
      go_wp2_with fail
      clear hc4
      go_loopw [31, 12] (fun i vo W => ∃ (k : Nat), i = .int .i64 k ∧ k ≤ r.f0.length ∧ AO X gs v D (.slice Ai ids.length ci) ids w2 vo ((r.f0.take k).map (mroll ids)) W) (fun i _ _ => r.f0.length - (intOf i).toNat)
      case atStart => exact ⟨0, rfl, Nat.zero_le _, A2.out.start HZ2.out⟩
      case round =>
        obtain ⟨k, rfl, hk, hAO⟩ := hrel
        have O0 := Aside0.mk hAO
        clear hAO
        by_cases hlk : k < r.f0.length
        · obtain ⟨lo, hlo⟩ : ∃ lo : List S53, lo = (r.f0.take k).map (mroll ids) := ⟨_, rfl⟩
          rw [← hlo] at O0
          have hll : lo.length ≤ r.f0.length := by rw [hlo, List.length_map, List.length_take]; omega
          have HLO := Aside0.mk hlo
          clear hlo
          obtain ⟨Av, cv, hvo⟩ := Kd.R_slice O0.out.ov
          subst hvo
          obtain ⟨_, _, _, hc3⟩ := HALL.out wr (by have := O0.out.fr; rw [HX.out] at this; exact this)
          rw [← hrr] at hc3
          dsimp only at hc3
          obtain ⟨ae, A1', c1, A3, c3, A4, c4, A5, c5, ea, d0, d1, d2, d3, d4, d5, n1, r1, n3, r3, n4, r4, n5, r5⟩ := at_T53 hc3 (k : Int) (by omega) (by omega)
          have HXK := Aside0.mk (rd_ST_at' r.f0 k hlk)
          cases ea
          simp only [Int.toNat_natCast] at d0 d1 d2 d3 d4 d5
          obtain ⟨x, hx⟩ : ∃ x, x = rd_T53 r.f0 (k : Int) := ⟨_, rfl⟩
          rw [← hx] at d0 d1 d2 d3 d4 d5 n1 r1 n3 r3 n4 r4 n5 r5 HXK
          clear hx hc3
          have R1 := Aside0.mk r1
          have R3 := Aside0.mk r3
          have R4 := Aside0.mk r4
          have R5 := Aside0.mk r5
          clear r1 r3 r4 r5
          have O1 := Aside0.mk (O0.out.below ((Below.refl wr.heap.size wr).alloc (Nat.le_refl _) (.cells #[.bool x.f0, .slice A1' x.f1.length c1, .int .i64 x.f2.f0, .slice A3 x.f2.f1.length c3, .slice A4 x.f2.f2.length c4, .slice A5 x.f2.f3.length c5] 53)))
          go_wp2_with fail
          have SI := Aside0.mk (HIN.out r (List.mem_of_getElem? HR.out) x (List.mem_of_getElem? HXK.out))
          refine (mapped_calls CC.out wr () x.f0 x.f2.f0 A1' c1 x.f1 A3 c3 x.f2.f1 A4 c4 x.f2.f2 A5 c5 x.f2.f3 _ O1.out.b2.size ((Below.refl _ _).alloc (Nat.le_refl _) _) (by intro k_ e_; cases e_) O1.out.b2 R1.out R3.out R4.out R5.out SI.out.ok.q1 SI.out.ok.q2 SI.out.ok.q3 SI.out.ok.q4 SI.out.ok.l1 SI.out.ok.l2 SI.out.ok.l3 SI.out.ok.l4).mono ?_
          rintro e w3 ⟨v1, v2, v3, v4, rfl, h1, h2, h3, h4, _, hgr⟩
          have hm := k53_made (b := x.f0) (n := x.f2.f0) h1 h2 h3 h4
          have hm2 : k53.M w3 w2.heap.size (fun k_ => wr.heap.size + 1 ≤ k_) (mroll ids x) [.bool x.f0, v1, .int .i64 x.f2.f0, v2, v3, v4] := k53.M_lower O1.out.b2.size (k53.M_mono (fun k_ hk_ => by have := hk_.2.1; simpa using this) (k53.M_bound hm))
          have O3 := Aside0.mk (O1.out.below (bel_of_grown hgr (Nat.le_refl _) (by intro k_ e_; cases e_)))
          have hz3 : wr.heap.size + 1 ≤ w3.heap.size := by have := hgr.size; simpa using this
          have NI : ∀ k_, wr.heap.size + 1 ≤ k_ → some k_ ≠ (Value.slice Ai ids.length ci).ownBlock := fun k_ hk_ e_ => by obtain ⟨_, in_, ho_, _⟩ := O0.out.iv; have := own_lt ho_ k_ e_.symm; omega
          have NV : ∀ k_, wr.heap.size + 1 ≤ k_ → some k_ ≠ (Value.slice Av lo.length cv).ownBlock := fun k_ hk_ e_ => by obtain ⟨_, in_, ho_, _⟩ := O0.out.ov; have := own_lt ho_ k_ e_.symm; omega
          have HNI := Aside0.mk NI
          have HNV := Aside0.mk NV
          have HM2 := Aside0.mk hm2
          have HZ3 := Aside0.mk hz3
          clear h1 h2 h3 h4 hm hm2 hgr NI NV d0 d1 d2 d3 d4 d5
          go_wp2_with (at_builtin; refine Kd.R_append k53 (w0 := w3) w2.heap.size rfl (.tmp 35) (.tmp 39) 60 53 (.agg #[.bool false, .slice none 0 0, .int .i64 0, .slice none 0 0, .slice none 0 0, .slice none 0 0]) 112 rfl Tryd.underlying60 infoST rfl (by decide) (by omega) (.slice Av lo.length cv) lo (mroll ids x) [.bool x.f0, v1, .int .i64 x.f2.f0, v2, v3, v4] (fun k_ => True ∧ some k_ ≠ (Value.slice Ai ids.length ci).ownBlock) (fun k_ => wr.heap.size + 1 ≤ k_) rfl rfl HM2.out (fun k_ hk_ => ⟨⟨trivial, HNI.out k_ hk_⟩, HNV.out k_ hk_⟩) (fun k_ hk_ => ⟨trivial, HNI.out k_ (Nat.le_trans HZ3.out hk_)⟩) O3.out.ov (Below.refl _ _) O3.out.b2.size (by omega) ?_; intro v5 w4 ho _ hg hat; have O4 := Aside0.mk (O3.out.app (by have h_ := HT.out; rw [HX.out]; rcases h_ with h_ | h_ <;> (dsimp only; rw [h_]; decide)) (by rw [HX.out]; exact HZ.out) ho hg hat); clear ho hg hat)
          go_roundw
          case rel => exact ⟨k + 1, by go_num, by omega, by have e_ : (r.f0.take (k + 1)).map (mroll ids) = lo ++ [mroll ids x] := (by rw [List.take_add_one, HXK.out, List.map_append, HLO.out]; rfl); rw [e_]; exact O4.out⟩
          case measure => simp [intOf]; omega
        · obtain rfl : k = r.f0.length := by omega
          rw [List.take_length] at O0
          clear hk hlk
          obtain ⟨own, hown⟩ : ∃ own_, own_ = ownG ids r := ⟨_, rfl⟩
          have O1 := O0
          rw [show r.f0.map (mroll ids) = own from hown.symm] at O1
          have HOWN := Aside0.mk hown
          clear O0 hown
          obtain ⟨Ao, co, hvo, hco, hCo⟩ := Kd.R_reads O1.out.ov
          subst hvo
          obtain ⟨wk, rfl⟩ : ∃ wk : World, wk = wr := ⟨_, rfl⟩
          have HOL : Aside0 (own.length = r.f0.length) := ⟨by rw [HOWN.out, ownG_length]⟩
          have hob : own.length ≤ 1048576 := by rw [HOL.out]; exact hrl
          have S6 : Aside0 (∀ s ∈ own, S64 s) := ⟨by rw [HOWN.out]; have hids : ∀ i ∈ ids, 0 ≤ i ∧ i < manyOf gs0 + (tcount (l.take j) : Nat) := HAB.out.ids; exact ownG_64 hids (by have h1 := tcount_take_le l j r HR.out; have h2 := tcount_le_wL l; have h3 := HW.out; have h4 := HM0.out; omega) (by have h0 := HAB.out.len; dsimp only at h0; have h1 := tcount_take_le l j r HR.out; have h2 := tcount_le_wL l; have h3 := HW.out; omega) (HIN.out r (List.mem_of_getElem? HR.out))⟩
          have WG : Aside0 (wG own ≤ 1048576) := ⟨by rw [HOWN.out, wG_own]; have h1 := sum_le_mem (fun r : S62 => wG r.f0) l r (List.mem_of_getElem? HR.out); have h2 := HW.out; unfold wL at h2; omega⟩
          have KL : Aside0 ((keyT own).length ≤ 262144000) := ⟨by have h1 := keyT_le own S6.out (by have := WG.out; omega); have h2 := WG.out; omega⟩
          go_wp2_with fail
          refine (key_calls Ao co own wk hCo S6.out (by have := KL.out; omega) (tab_mono O1.out.tb.tab O1.out.fr.zz)).mono ?_
          rintro e w5 ⟨sk, rfl, hsk, hb5⟩
          have O5 := Aside0.mk (O1.out.below hb5)
          have hkey : keyOf Tryd.prog 9 (.string sk) = some (.string (keyT own)) := by rw [← hsk]; exact Go.WideMaps.keyOf_string_mk Tryd.underlying9 (by have h1 := KL.out; rw [← hsk] at h1; simp at h1; unfold maxLen; omega)
          have hmap := O5.out.tb.map
          obtain ⟨q0, q1, q2⟩ := cells3 O5.out.tb.box
          have eX : X.g = g ∧ X.b = b ∧ X.t = t ∧ X.B = B := by rw [HX.out]; exact ⟨rfl, rfl, rfl, rfl⟩
          obtain ⟨eg, eb, et, eB⟩ := eX
          rw [eg] at q0 q1 q2
          rw [eb] at q1 hmap
          obtain ⟨Av, cv, hv⟩ := Kd.R_slice O5.out.tb.row
          rw [famsFrom_length] at hv
          subst hv
          have HEG := Aside0.mk eg
          have HEB := Aside0.mk eb
          have HET := Aside0.mk et
          have HEBB := Aside0.mk eB
          have HMAP := Aside0.mk hmap
          have HKEY := Aside0.mk hkey
          have mm0 : 0 ≤ manyOf gs := manyOf_nonneg gs
          have mm1 : manyOf gs ≤ 2199023255552 := by have h0 := HAB.out.many; dsimp only at h0; have h1 := tcount_take_le l j r HR.out; have h2 := tcount_le_wL l; have h3 := HW.out; have h4 := HM0.out; omega
          have gl : gs.length ≤ 2199023255552 := by have h0 := HGL.out; have h4 := HG0.out; omega
          clear hb5 hsk hmap hkey eg eb et eB hCo
          rcases hf : findK gs own with _ | p
          · have hD : has D (.string (keyT own)) = false := O5.out.tb.pm.miss _ (findK_none hf)
            obtain ⟨mg, hmg⟩ : ∃ mg : Int, mg = manyOf gs := ⟨_, rfl⟩
            rw [← hmg] at q2 mm0 mm1
            have HMG := Aside0.mk hmg
            clear hmg
            have hwm : wrap64 (mg + (own.length : Int)) = mg + own.length := by unfold wrap64; omega
            by_cases hmo : most < mg + (own.length : Int)
            · go_wp2_with (at_lookup; refine wpList_lookup_own_ok_int _ rfl _ _ 43 rfl 9 3 .i64 placesLaw Tryd.underlying43 Tryd.underlying3 (zeroInt _) b gs.length D rfl HMAP.out _ _ rfl HKEY.out ?_; intro ca hca hwc; rw [hD]; clear hca hwc)
              go_ret2
              have e0 : addTo most (gs0, []) l = none := addTo_stop most _ l (j + 1) (by rw [addTo_take most _ l j r HR.out, HST.out]; show addStep most (gs, ids) r = none; unfold addStep; dsimp only; rw [← HOWN.out, hf]; dsimp only; rw [if_pos (by rw [← HMG.out]; exact hmo)])
              rw [e0]
              exact ⟨j, gs, _, D, rfl, O5.out.tb.weak (fun _ _ => trivial), O5.out.fr⟩
            · skip
              have HWL : Aside0 ((Lit.int .i64 (gs.length : Int)).wf = true) := ⟨by have h_ := wrap64_wf (gs.length : Int); rwa [show wrap64 (gs.length : Int) = gs.length from by unfold wrap64; omega] at h_⟩
              go_wp2_with (first | (at_lookup; refine wpList_lookup_own_ok_int _ rfl _ _ 43 rfl 9 3 .i64 placesLaw Tryd.underlying43 Tryd.underlying3 (zeroInt _) b gs.length D rfl HMAP.out _ _ rfl HKEY.out ?_; intro ca hca hwc; rw [hD]; clear hca hwc) | (at_mapUpdate; refine wpList_mapUpdate_own _ rfl _ _ _ 43 rfl 9 3 placesLaw Tryd.underlying43 _ b gs.length D rfl HMAP.out (by unfold maxLen; omega) _ _ _ rfl rfl HKEY.out _ [] (plainElem_int Tryd.underlying3 HWL.out) ?_; intro w6 hmap6 hg6))
              have N6 := Aside0.mk (O5.out.map (by rw [HX.out]; exact HZ.out) (by rw [HEB.out]; exact hmap6) (by rw [HEB.out]; exact hg6))
              have PM6 := Aside0.mk (O5.out.tb.pm.snoc (findK_none hf))
              generalize D.put (.string (keyT own)) (.lit (.int .i64 (gs.length : Int))) = D6 at N6 PM6
              clear hmap6 hg6 q0 q1 q2
              have N7 := Aside0.mk (N6.out.below (W' := w6.drew) ⟨rfl, rfl, rfl, Nat.le_refl _, fun _ _ => rfl⟩)
              obtain ⟨q0, q1, q2⟩ := cells3 N7.out.box
              rw [HEG.out] at q0 q1 q2
              rw [← HMG.out] at q2
              clear q1
              have QQ := Aside0.mk (And.intro q0 q2)
              clear q0 q2
              go_wp2_with fail
              refine start_ (n := 16) (S := fun w' => w'.cell? ⟨g, 0, none⟩ = some (.slice Av gs.length cv) ∧ w'.cell? ⟨g, 2, none⟩ = some (.int .i64 mg)) (ds := [15]) #[false, false, false, false, false, false, false, false, false, false, false, false, false, false, false, false] (by kernel_rfl) rfl rfl ⟨QQ.out.1, QQ.out.2⟩ (fun hHeld => ?_)
              generalize World.drew _ = w7 at N7 QQ hHeld ⊢
              have HPM : Aside0 (kFam.M w7 X.B (fun k_ => (True ∧ some k_ ≠ (Value.slice Ai ids.length ci).ownBlock) ∧ some k_ ≠ (Value.slice Av gs.length cv).ownBlock) (mg, own) [.int .i64 mg, .slice Ao own.length co]) := ⟨⟨[.int .i64 mg], [.slice Ao own.length co], rfl, rfl, ⟨_, rfl, Kd.R_lower (R_apart N7.out.row N7.out.ov (by decide)) (by rw [HX.out]; exact HZ.out)⟩⟩⟩
              have HFR : Aside0 (∀ k_, w7.heap.size ≤ k_ → True ∧ some k_ ≠ (Value.slice Ai ids.length ci).ownBlock) := ⟨fun k_ hk_ => ⟨trivial, fun e_ => by obtain ⟨_, in_, ho_, _⟩ := N7.out.iv; have := own_lt ho_ k_ e_.symm; omega⟩⟩
              have QQW := Aside0.mk (cells3 (blk_alloc N7.out.box (.cells #[.int .i64 mg, .slice Ao own.length co] 93)))
              rw [HEG.out, ← HMG.out] at QQW
              refine pure_ (i := 0) (N := some 76) (v := ?_) (a' := ?_) #[true, false, false, false, false, false, false, false, false, false, false, false, false, false, false, false] rfl rfl (by kernel_rfl) (fun _ _ _ h => h) (Or.inl ⟨by rfl, ?_⟩) ?_ ?_
              rotate_left
              · intro w'
                go_simp
                with_reducible rfl
              rotate_left
              · simp only [Act.put, List.setIfInBounds_toArray, List.set_cons_zero, List.set_cons_succ, i64_w, i32_w]
                rfl
              refine pure_ (i := 1) (N := some 77) (v := ?_) (a' := ?_) #[true, true, false, false, false, false, false, false, false, false, false, false, false, false, false, false] rfl rfl (by kernel_rfl) (fun _ _ _ h => h) (Or.inl ⟨by rfl, ?_⟩) ?_ ?_
              rotate_left
              · intro w'
                go_simp
                with_reducible rfl
              rotate_left
              · simp only [Act.put, List.setIfInBounds_toArray, List.set_cons_zero, List.set_cons_succ, i64_w, i32_w]
                rfl
              refine pure_ (i := 2) (N := some 78) (v := ?_) (a' := ?_) #[true, true, true, false, false, false, false, false, false, false, false, false, false, false, false, false] rfl rfl (by kernel_rfl) (fun _ _ _ h => h) (Or.inl ⟨by rfl, ?_⟩) ?_ ?_
              rotate_left
              · intro w'
                go_simp
                with_reducible rfl
              rotate_left
              · simp only [Act.put, List.setIfInBounds_toArray, List.set_cons_zero, List.set_cons_succ, i64_w, i32_w]
                rfl
              refine pure_ (i := 3) (N := some 79) (v := ?_) (a' := ?_) #[true, true, true, true, false, false, false, false, false, false, false, false, false, false, false, false] rfl rfl (by kernel_rfl) (fun _ _ _ h => h) (Or.inl ⟨by rfl, ?_⟩) ?_ ?_
              rotate_left
              · intro w'
                go_simp
                with_reducible rfl
              rotate_left
              · simp only [Act.put, List.setIfInBounds_toArray, List.set_cons_zero, List.set_cons_succ, i64_w, i32_w]
                rfl
              refine pure_ (i := 5) (N := some 81) (v := ?_) (a' := ?_) #[true, true, true, true, false, true, false, false, false, false, false, false, false, false, false, false] rfl rfl (by kernel_rfl) (fun _ _ _ h => h) (Or.inl ⟨by rfl, ?_⟩) ?_ ?_
              rotate_left
              · intro w'
                go_simp
                with_reducible rfl
              rotate_left
              · simp only [Act.put, List.setIfInBounds_toArray, List.set_cons_zero, List.set_cons_succ, i64_w, i32_w]
                rfl
              refine pure_ (i := 6) (N := some 82) (v := ?_) (a' := ?_) #[true, true, true, true, false, true, true, false, false, false, false, false, false, false, false, false] rfl rfl (by kernel_rfl) (fun _ _ _ h => h) (Or.inl ⟨by rfl, ?_⟩) ?_ ?_
              rotate_left
              · intro w'
                go_simp
                with_reducible rfl
              rotate_left
              · simp only [Act.put, List.setIfInBounds_toArray, List.set_cons_zero, List.set_cons_succ, i64_w, i32_w]
                rfl
              refine pure_ (i := 7) (N := some 83) (v := ?_) (a' := ?_) #[true, true, true, true, false, true, true, true, false, false, false, false, false, false, false, false] rfl rfl (by kernel_rfl) (fun _ _ _ h => h) (Or.inl ⟨by rfl, ?_⟩) ?_ ?_
              rotate_left
              · intro w'
                go_simp
                with_reducible rfl
              rotate_left
              · simp only [Act.put, List.setIfInBounds_toArray, List.set_cons_zero, List.set_cons_succ, i64_w, i32_w]
                rfl
              refine pure_ (i := 9) (N := some 85) (v := ?_) (a' := ?_) #[true, true, true, true, false, true, true, true, false, true, false, false, false, false, false, false] rfl rfl (by kernel_rfl) (fun _ _ _ h => h) (Or.inl ⟨by rfl, ?_⟩) ?_ ?_
              rotate_left
              · intro w'
                go_simp
                with_reducible rfl
              rotate_left
              · simp only [Act.put, List.setIfInBounds_toArray, List.set_cons_zero, List.set_cons_succ, i64_w, i32_w]
                rfl
              refine take_ (i := 4) (N := some 80) (v := ?_) (a' := ?_) #[true, true, true, true, true, true, true, true, false, true, false, false, false, false, false, false] rfl rfl (by kernel_rfl) (fun _ _ _ h => h) (Or.inl ⟨by rfl, ?_⟩) hHeld ?_ ?_
              rotate_left
              · rintro w' ⟨s0, s1⟩
                go_simp
                with_reducible rfl
              rotate_left
              · simp only [Act.put, List.setIfInBounds_toArray, List.set_cons_zero, List.set_cons_succ, i64_w, i32_w]
                rfl
              refine take_ (i := 8) (N := some 84) (v := ?_) (a' := ?_) #[true, true, true, true, true, true, true, true, true, true, false, false, false, false, false, false] rfl rfl (by kernel_rfl) (fun _ _ _ h => h) (Or.inl ⟨by rfl, ?_⟩) hHeld ?_ ?_
              rotate_left
              · rintro w' ⟨s0, s1⟩
                go_simp
                with_reducible rfl
              rotate_left
              · simp only [Act.put, List.setIfInBounds_toArray, List.set_cons_zero, List.set_cons_succ, i64_w, i32_w]
                rfl
              refine pure_ (i := 10) (N := some 86) (v := ?_) (a' := ?_) #[true, true, true, true, true, true, true, true, true, true, true, false, false, false, false, false] rfl rfl (by kernel_rfl) (fun _ _ _ h => h) (Or.inl ⟨by rfl, ?_⟩) ?_ ?_
              rotate_left
              · intro w'
                go_simp
                with_reducible rfl
              rotate_left
              · simp only [Act.put, List.setIfInBounds_toArray, List.set_cons_zero, List.set_cons_succ, i64_w, i32_w]
                rfl
              refine one_ (i := 11) (N := some 87) #[true, true, true, true, true, true, true, true, true, true, true, true, false, false, false, false] rfl rfl (by kernel_rfl) (by decide) (fun K hK => ?_)
              refine value_ (w1 := ?_) (v := ?_) (by rfl) rfl ?_ ?_
              rotate_left 2
              · go_simp
                constructor
                · rfl
                · rfl
              refine hK.out _ _ ⟨QQW.out.1, QQW.out.2.2⟩ (fun hHeld => ?_)
              clear hK K
              refine norm_ (a' := ?_) ?_ ?_
              rotate_left
              · show Act.put _ (some 87) _ = _
                simp only [Act.put, List.setIfInBounds_toArray, List.set_cons_zero, List.set_cons_succ, i64_w, i32_w]
                rfl
              refine one_ (i := 12) (N := some 88) #[true, true, true, true, true, true, true, true, true, true, true, true, true, false, false, false] rfl rfl (by kernel_rfl) (by decide) (fun K hK => ?_)
              refine Kd.R_append_step kFam (w0 := w7) X.B (by rfl) (.tmp 80) (.tmp 87) 42 93 (.agg #[.int .i64 0, .slice none 0 0]) 32 rfl Tryd.underlying42 infoFam rfl (by decide) (by omega) (.slice Av gs.length cv) (famsFrom 0 gs) (mg, own) [.int .i64 mg, .slice Ao own.length co] (fun k_ => True ∧ some k_ ≠ (Value.slice Ai ids.length ci).ownBlock) (fun k_ => (True ∧ some k_ ≠ (Value.slice Ai ids.length ci).ownBlock) ∧ some k_ ≠ (Value.slice Av gs.length cv).ownBlock) rfl rfl HPM.out (fun _ hk_ => hk_) HFR.out N7.out.row (Below.refl _ _) N7.out.fr.zz (by rw [famsFrom_length]; omega) ?_
              intro v5 w8 ho _ hg hat
              rw [show famsFrom 0 gs ++ [(mg, own)] = famsFrom 0 (gs ++ [own]) by rw [famsFrom_snoc, Int.zero_add, HMG.out]] at ho
              have Q8 := Aside0.mk (N7.out.put (by rw [HX.out]; exact HT.out) ho hg)
              have b8 := N7.out.grown (by have h_ := HT.out; rw [HX.out]; rcases h_ with h_ | h_ <;> (dsimp only; rw [h_]; decide)) ho hg
              have ff := blk_frozen b8 0
              obtain ⟨q0, q1, q2⟩ := cells3 b8
              rw [HEG.out] at q0 q1 q2 Q8 ff
              rw [← HMG.out] at q2 Q8
              obtain ⟨A5, c5, e5⟩ := Kd.R_slice ho
              rw [famsFrom_length, List.length_append, List.length_singleton] at e5
              subst e5
              have FF := Aside0.mk ff
              have QQ2 := Aside0.mk (And.intro q0 q2)
              clear q0 q1 q2 ff b8 ho hg hat
              refine hK.out _ _ ⟨QQ2.out.1, QQ2.out.2⟩ (fun hHeld => ?_)
              clear hK K
              refine norm_ (a' := ?_) ?_ ?_
              rotate_left
              · show Act.put _ (some 88) _ = _
                simp only [Act.put, List.setIfInBounds_toArray, List.set_cons_zero, List.set_cons_succ, i64_w, i32_w]
                rfl
              refine pure_ (i := 13) (N := some 89) (v := ?_) (a' := ?_) #[true, true, true, true, true, true, true, true, true, true, true, true, true, true, false, false] rfl rfl (by kernel_rfl) (fun _ _ _ h => h) (Or.inl ⟨by rfl, ?_⟩) ?_ ?_
              rotate_left
              · intro w'
                go_simp
                with_reducible rfl
              rotate_left
              · simp only [Act.put, List.setIfInBounds_toArray, List.set_cons_zero, List.set_cons_succ, i64_w, i32_w]
                rfl
              refine pure_ (i := 14) (N := some 90) (v := ?_) (a' := ?_) #[true, true, true, true, true, true, true, true, true, true, true, true, true, true, true, false] rfl rfl (by kernel_rfl) (fun _ _ _ h => h) (Or.inl ⟨by rfl, ?_⟩) ?_ ?_
              rotate_left
              · intro w'
                go_simp
                with_reducible rfl
              rotate_left
              · simp only [Act.put, List.setIfInBounds_toArray, List.set_cons_zero, List.set_cons_succ, i64_w, i32_w]
                rfl
              refine last_ (i := 15) (N := none) #[true, true, true, true, true, true, true, true, true, true, true, true, true, true, true, true] rfl rfl (by kernel_rfl) (by decide) (fun K hK => ?_)
              have hs_ : w8.cell? ⟨g, 0, none⟩ = some (.slice Av gs.length cv) := QQ2.out.1
              have hfs_ : w8.frozen? ⟨g, 0, none⟩ = false := FF.out
              refine skip_ (w1 := ?_) (by rfl) rfl ?_ ?_
              rotate_left
              · go_simp
                rfl
              refine hK.out _ _ ?_
              clear hK K
              refine done_ (by kernel_rfl) ?_
              
              obtain ⟨gs2, hgs2⟩ : ∃ gs2 : List (List S53), gs2 = gs ++ [own] := ⟨_, rfl⟩
              rw [← hgs2] at Q8 PM6
              have HGS2 := Aside0.mk hgs2
              generalize w8.setCell ⟨g, 0, none⟩ (.slice A5 (gs.length + 1) c5) = w9 at Q8 ⊢
              obtain ⟨q0, q1, q2⟩ := cells3 Q8.out.box
              have fz2 := blk_frozen Q8.out.box 2
              rw [HEG.out] at q2 fz2
              have q3 : w9.cell? ⟨g, 2, none⟩ = some (.int .i64 mg) := q2
              have fz3 : w9.frozen? ⟨g, 2, none⟩ = false := fz2
              clear q2 fz2
              have Q9 := Aside0.mk (Q8.out.set2 (by rw [HX.out]; exact HT.out) (mg + (own.length : Int)))
              rw [HEG.out] at Q9
              have emg : mg + (own.length : Int) = manyOf gs2 := by rw [hgs2, manyOf_snoc, HMG.out]
              have I0 : Aside0 (AI X gs2 (.slice A5 (gs.length + 1) c5) D6 (.slice Ai ids.length ci) ids (w9.setCell ⟨g, 2, none⟩ (.int .i64 (mg + (own.length : Int))))) := ⟨AQ.ai (by have h_ := Q9.out; rw [emg] at h_ ⊢; exact h_) PM6.out⟩
              have HXP : Aside0 (gs2[gs.length]? = some own) := ⟨by rw [hgs2]; simp⟩
              have efo : firstOf gs2 gs.length = mg := by rw [hgs2, HMG.out]; simp [firstOf]
              have E1 : Aside0 (∀ (k_ : Nat), k_ = own.length → addTo most (gs0, []) (l.take (j + 1)) = some (gs2, ids ++ idsFrom (firstOf gs2 gs.length) k_)) := ⟨by intro k_ hk_; subst hk_; rw [efo, addTo_take most _ l j r HR.out, HST.out]; show addStep most (gs, ids) r = _; unfold addStep; dsimp only; rw [← HOWN.out, hf]; dsimp only; rw [if_neg (by rw [← HMG.out]; omega), hgs2, HMG.out]⟩
              have E2 : Aside0 (AB2 (manyOf gs0) (tcount (l.take (j + 1))) (gs2, ids ++ idsFrom (firstOf gs2 gs.length) own.length)) := ⟨by rw [tcount_take l j r HR.out, ← HOL.out, efo]; have h1 := HAB.out.many; dsimp only at h1; have h2 := HMG.out; exact HAB.out.step mm0 (by omega) (by rw [← emg]; omega)⟩
              have E3 : Aside0 (gs2.length ≤ gs0.length + (j + 1)) := ⟨by rw [hgs2, List.length_append]; have := HGL.out; simp; omega⟩
              have FB : Aside0 (firstOf gs2 gs.length ≤ 2199023255552) := ⟨by rw [efo]; exact mm1⟩
              have FB0 : Aside0 (0 ≤ firstOf gs2 gs.length) := ⟨by rw [efo]; exact mm0⟩
              clear q0 q1 efo emg hgs2 hf
              go_wp2_with fail
              go_loopw [102, 8] (fun i vi W => ∃ (k : Nat), i = .int .i64 k ∧ k ≤ own.length ∧ AI X gs2 (.slice A5 (gs.length + 1) c5) D6 vi (ids ++ idsFrom (firstOf gs2 gs.length) k) W) (fun i _ _ => own.length - (intOf i).toNat)
              case atStart => exact ⟨0, rfl, Nat.zero_le _, by simpa [idsFrom] using I0.out⟩
              case round =>
                obtain ⟨k, rfl, hk, hI⟩ := hrel
                have I1 := Aside0.mk hI
                clear hI
                by_cases hlk : k < own.length
                · obtain ⟨q0, _, _⟩ := cells3 I1.out.tb.box
                  rw [HEG.out] at q0
                  obtain ⟨_, _, ev, _, hrd⟩ := Kd.R_reads I1.out.tb.row
                  injection ev with ev1 ev2 ev3
                  subst ev1
                  obtain ⟨af, eaf, hcf⟩ := at_fam hrd gs.length _ (famsFrom_get 0 _ _ _ HXP.out) rfl
                  cases eaf
                  dsimp only at hcf
                  rw [Int.zero_add] at hcf
                  clear hrd ev2 ev3
                  obtain ⟨li, hli⟩ : ∃ li_ : List Int, li_ = ids ++ idsFrom (firstOf gs2 gs.length) k := ⟨_, rfl⟩
                  rw [← hli] at I1
                  have HLI := Aside0.mk hli
                  have hil : li.length ≤ 4194304 := by have h0 := HAB.out.len; dsimp only at h0; rw [hli, List.length_append, idsFrom_length]; have h1 := tcount_take_le l j r HR.out; have h2 := tcount_le_wL l; have h3 := HW.out; have h4 := HOL.out; omega
                  clear hli
                  obtain ⟨Aj, cj, hvj⟩ := Kd.R_slice I1.out.iv
                  subst hvj
                  obtain ⟨f0, hf0⟩ : ∃ f0_ : Int, f0_ = firstOf gs2 gs.length := ⟨_, rfl⟩
                  have HF0 := Aside0.mk hf0
                  rw [← hf0] at hcf
                  have hb0 : 0 ≤ f0 := by rw [hf0]; exact FB0.out
                  have hb1 : f0 ≤ 2199023255552 := by rw [hf0]; exact FB.out
                  clear hf0
                  have hwf : wrap64 (f0 + (k : Int)) = f0 + k := by unfold wrap64; omega
                  go_wp2_with (at_builtin; refine Kd.R_append (Kd.int .i64) (w0 := wr) X.w.heap.size rfl (.tmp 105) (.tmp 116) 37 3 (.int .i64 0) 8 rfl Tryd.underlying37 info3 rfl (by decide) (by omega) (.slice Aj li.length cj) li (f0 + k) [.int .i64 (f0 + k)] (fun _ => True) (fun _ => False) rfl rfl rfl (fun _ hk_ => hk_.elim) (fun _ _ => trivial) I1.out.iv ⟨rfl, rfl, rfl, Nat.le_refl _, fun _ _ => rfl⟩ (by have h1 := I1.out.fr.bel.size; exact h1) (by omega) ?_; intro v5 w4 ho _ hg hat_; have I4 := Aside0.mk (I1.out.app (by have h_ := HT.out; rw [HX.out]; rcases h_ with h_ | h_ <;> (dsimp only; rw [h_]; decide)) (by rw [HX.out]; exact HZ.out) ho hg hat_); clear ho hg hat_)
                  go_roundw
                  case rel => exact ⟨k + 1, by go_num, by omega, by have e_ : ids ++ idsFrom (firstOf gs2 gs.length) (k + 1) = li ++ [f0 + k] := (by rw [idsFrom_succ, HLI.out, HF0.out, List.append_assoc]); rw [e_]; exact I4.out⟩
                  case measure => simp [intOf]; omega
                · obtain rfl : k = own.length := by omega
                  clear hk hlk
                  go_wp2_with fail
                  go_roundw
                  case rel => exact ⟨j + 1, gs2, _, _, _, by go_num, by omega, E1.out _ rfl, I1.out, E2.out, E3.out⟩
                  case measure => simp [intOf]; omega
          · skip
            obtain ⟨xp, hxp, hkp⟩ := findK_some hf
            obtain ⟨hD, hat⟩ := O5.out.tb.pm.hit p xp hxp
            rw [hkp] at hD hat
            have I0 := Aside0.mk O5.out.done
            have hpl : p < gs.length := (List.getElem?_eq_some_iff.1 hxp).1
            go_wp2_with (at_lookup; refine wpList_lookup_own_ok_int _ rfl _ _ 43 rfl 9 3 .i64 placesLaw Tryd.underlying43 Tryd.underlying3 (zeroInt _) b gs.length D rfl HMAP.out _ _ rfl HKEY.out ?_; intro ca hca hwc; rw [hD]; obtain rfl : ca = p := by (rw [hat] at hca; injection hca with hca; injection hca with _ hca; exact hca.symm))
            have FP := Aside0.mk (firstOf_le gs p xp hxp)
            have HXP := Aside0.mk hxp
            have E1 : Aside0 (∀ (k_ : Nat), k_ = own.length → addTo most (gs0, []) (l.take (j + 1)) = some (gs, ids ++ idsFrom (firstOf gs p) k_)) := ⟨by intro k_ hk_; subst hk_; rw [addTo_take most _ l j r HR.out, HST.out]; show addStep most (gs, ids) r = _; unfold addStep; dsimp only; rw [← HOWN.out, hf]⟩
            have E2 : Aside0 (AB2 (manyOf gs0) (tcount (l.take (j + 1))) (gs, ids ++ idsFrom (firstOf gs p) own.length)) := ⟨by rw [tcount_take l j r HR.out, ← HOL.out]; have h1 := HAB.out.many; dsimp only at h1; exact HAB.out.step FP.out.1 (by have := FP.out.2; omega) (by omega)⟩
            have E3 : Aside0 (gs.length ≤ gs0.length + (j + 1)) := ⟨by have := HGL.out; omega⟩
            have FB : Aside0 (firstOf gs p ≤ 2199023255552) := ⟨by have := FP.out.2; omega⟩
            have FB0 : Aside0 (0 ≤ firstOf gs p) := ⟨FP.out.1⟩
            go_wp2_with fail
            go_loopw [102, 8] (fun i vi W => ∃ (k : Nat), i = .int .i64 k ∧ k ≤ own.length ∧ AI X gs (.slice Av gs.length cv) D vi (ids ++ idsFrom (firstOf gs p) k) W) (fun i _ _ => own.length - (intOf i).toNat)
            case atStart => exact ⟨0, rfl, Nat.zero_le _, by simpa [idsFrom] using I0.out⟩
            case round =>
              obtain ⟨k, rfl, hk, hI⟩ := hrel
              have I1 := Aside0.mk hI
              clear hI
              by_cases hlk : k < own.length
              · obtain ⟨q0, _, _⟩ := cells3 I1.out.tb.box
                rw [HEG.out] at q0
                obtain ⟨_, _, ev, _, hrd⟩ := Kd.R_reads I1.out.tb.row
                injection ev with ev1 ev2 ev3
                subst ev1
                obtain ⟨af, eaf, hcf⟩ := at_fam hrd p _ (famsFrom_get 0 _ _ _ HXP.out) rfl
                cases eaf
                dsimp only at hcf
                rw [Int.zero_add] at hcf
                clear hrd ev2 ev3
                obtain ⟨li, hli⟩ : ∃ li_ : List Int, li_ = ids ++ idsFrom (firstOf gs p) k := ⟨_, rfl⟩
                rw [← hli] at I1
                have HLI := Aside0.mk hli
                have hil : li.length ≤ 4194304 := by have h0 := HAB.out.len; dsimp only at h0; rw [hli, List.length_append, idsFrom_length]; have h1 := tcount_take_le l j r HR.out; have h2 := tcount_le_wL l; have h3 := HW.out; have h4 := HOL.out; omega
                clear hli
                obtain ⟨Aj, cj, hvj⟩ := Kd.R_slice I1.out.iv
                subst hvj
                obtain ⟨f0, hf0⟩ : ∃ f0_ : Int, f0_ = firstOf gs p := ⟨_, rfl⟩
                have HF0 := Aside0.mk hf0
                rw [← hf0] at hcf
                have hb0 : 0 ≤ f0 := by rw [hf0]; exact FB0.out
                have hb1 : f0 ≤ 2199023255552 := by rw [hf0]; exact FB.out
                clear hf0
                have hwf : wrap64 (f0 + (k : Int)) = f0 + k := by unfold wrap64; omega
                go_wp2_with (at_builtin; refine Kd.R_append (Kd.int .i64) (w0 := wr) X.w.heap.size rfl (.tmp 105) (.tmp 116) 37 3 (.int .i64 0) 8 rfl Tryd.underlying37 info3 rfl (by decide) (by omega) (.slice Aj li.length cj) li (f0 + k) [.int .i64 (f0 + k)] (fun _ => True) (fun _ => False) rfl rfl rfl (fun _ hk_ => hk_.elim) (fun _ _ => trivial) I1.out.iv ⟨rfl, rfl, rfl, Nat.le_refl _, fun _ _ => rfl⟩ (by have h1 := I1.out.fr.bel.size; exact h1) (by omega) ?_; intro v5 w4 ho _ hg hat_; have I4 := Aside0.mk (I1.out.app (by have h_ := HT.out; rw [HX.out]; rcases h_ with h_ | h_ <;> (dsimp only; rw [h_]; decide)) (by rw [HX.out]; exact HZ.out) ho hg hat_); clear ho hg hat_)
                go_roundw
                case rel => exact ⟨k + 1, by go_num, by omega, by have e_ : ids ++ idsFrom (firstOf gs p) (k + 1) = li ++ [f0 + k] := (by rw [idsFrom_succ, HLI.out, HF0.out, List.append_assoc]); rw [e_]; exact I4.out⟩
                case measure => simp [intOf]; omega
              · obtain rfl : k = own.length := by omega
                clear hk hlk
                go_wp2_with fail
                go_roundw
                case rel => exact ⟨j + 1, gs, _, _, _, by go_num, by omega, E1.out _ rfl, I1.out, E2.out, E3.out⟩
                case measure => simp [intOf]; omega
    · obtain rfl : j = l.length := by omega
      have e0 := HST.out
      rw [List.take_length] at e0
      clear hj hlt
      go_wp2_with fail
      go_ret2
      rw [e0]
      exact ⟨v, D, _, rfl, A0.out⟩
end Go.Proofs.YtfgglniigeagdaaDoor.Cn
