/- Parts of the proof of subMeets_holds (16 of 20): what it says and shows stands at its declarations. -/
import Derived.Test.YtfgglniigeagdaaDoorZSm15
namespace Go.Proofs.YtfgglniigeagdaaDoor.Cn
set_option linter.unusedSimpArgs false
set_option linter.unusedVariables false
open Go.RowKit Go.Maps Go.Proofs.YtfgglniigeagdaaDoorW.PrintWords Go.Proofs.YtfgglniigeagdaaDoorW.PrintLast Go.Proofs.YtfgglniigeagdaaDoorW.PrintMore Go.Proofs.YtfgglniigeagdaaDoor.QD
def OneOut (B g : Nat) (ok : Nat → Prop) (gs : List (List S53)) (o : List S53) (w : World) (e : Ending) (w' : World) : Prop :=
  ∃ v', e = .returned (.int .i64 (oneF gs o)) ∧ R6 B g (OkN ok w.heap.size) (oneG gs o) v' w' ∧ FrR B g w w'
open Classical in
set_option maxRecDepth 100000 in
set_option maxHeartbeats 8000000 in
theorem r6one_calls (B g : Nat) (ok : Nat → Prop) (gs : List (List S53)) (v : Value) (Ar : Option Addr) (cr : Nat) (r : S62) (Ai : Option Addr) (ci : Nat) (ids : List Int) (w : World) (hT : R6 B g ok gs v w) (hB : B ≤ w.heap.size)
    (hr : ∀ W, FrR B g w W → Kd.C k53 W Ar r.f0.length r.f0) (hcr : r.f0.length ≤ cr) (hi : ∀ W, FrR B g w W → Kd.C (Kd.int .i64) W Ai ids.length ids) (hci : ids.length ≤ ci) (hin : ∀ s ∈ r.f0, RIn s) (hw : wG r.f0 ≤ 1048576) (hids : ids.length ≤ 4194304)
    (hm : manyOf gs ≤ 1099511627776) (hgl : gs.length ≤ 1099511627776) (hwg : ∀ x ∈ gs, wG x ≤ 1048576) :
    Calls Tryd.prog 66 #[.pointer (some ⟨g, 0, none⟩), .agg #[.slice Ar r.f0.length cr, .bool r.f1], .slice Ai ids.length ci] w (OneOut B g ok gs (ownG ids r) w) := by
  have RS : Aside0 (RO B g ok gs v w (.cells #[.slice Ar r.f0.length cr, .bool r.f1] 62 (0, 0)) (.slice none 0 0) [] (w.alloc (.cells #[.slice Ar r.f0.length cr, .bool r.f1] 62))) := ⟨RO.start hT hB _⟩
  have HB := Aside0.mk hB
  have HR := Aside0.mk hr
  have HI := Aside0.mk hi
  have HIN := Aside0.mk hin
  have HW := Aside0.mk hw
  have HWG := Aside0.mk hwg
  have hrl : r.f0.length ≤ 1048576 := Nat.le_trans (length_le_wG r.f0) hw
  have hm0 := manyOf_nonneg gs
  have HM := Aside0.mk (And.intro hm0 hm)
  have HBG := Aside0.mk hT.hg
  clear hT hB hr hi hin hw hwg hm hm0
  obtain ⟨o, ho⟩ : ∃ o, o = ownG ids r := ⟨_, rfl⟩
  rw [← ho]
  have HO := Aside0.mk ho
  clear ho
  go_enter Tryd.func66, Tryd.ntmps66
  go_wp2_with fail
  go_loopw [7, 8] (fun vo i W => ∃ (k : Nat), i = .int .i64 k ∧ k ≤ r.f0.length ∧ RO B g ok gs v w (.cells #[.slice Ar r.f0.length cr, .bool r.f1] 62 (0, 0)) vo ((r.f0.take k).map (mroll ids)) W) (fun _ i _ => r.f0.length - (intOf i).toNat)
  case atStart => exact ⟨0, rfl, Nat.zero_le _, RS.out⟩
  case round =>
    clear RS
    obtain ⟨k, rfl, hk, hRO⟩ := hrel
    have O0 := Aside0.mk hRO
    clear hRO
    have b0 : wr.cell? ⟨w.heap.size, 0, none⟩ = some (.slice Ar r.f0.length cr) := (blk_cell O0.out.bx 0).trans rfl
    by_cases hlk : k < r.f0.length
    · obtain ⟨lo, hlo⟩ : ∃ lo : List S53, lo = (r.f0.take k).map (mroll ids) := ⟨_, rfl⟩
      rw [← hlo] at O0
      have hll : lo.length ≤ r.f0.length := by rw [hlo, List.length_map, List.length_take]; omega
      have HLO := Aside0.mk hlo
      clear hlo
      obtain ⟨Av, cv, hvo⟩ := Kd.R_slice O0.out.ov
      subst hvo
      obtain ⟨ae, A1', c1, A3, c3, A4, c4, A5, c5, ea, d0, d1, d2, d3, d4, d5, n1, r1, n3, r3, n4, r4, n5, r5⟩ := at_T53 (HR.out wr O0.out.fr) (k : Int) (by omega) (by omega)
      have HXK := Aside0.mk (rd_ST_at' r.f0 k hlk)
      cases ea
      simp only [Int.toNat_natCast] at d0 d1 d2 d3 d4 d5
      obtain ⟨x, hx⟩ : ∃ x, x = rd_T53 r.f0 (k : Int) := ⟨_, rfl⟩
      rw [← hx] at d0 d1 d2 d3 d4 d5 n1 r1 n3 r3 n4 r4 n5 r5 HXK
      clear hx
      have R1 := Aside0.mk r1
      have R3 := Aside0.mk r3
      have R4 := Aside0.mk r4
      have R5 := Aside0.mk r5
      have RI := Aside0.mk (HI.out wr O0.out.fr)
      clear r1 r3 r4 r5
      have kl0 : (0 : Int) ≤ (k : Int) := Int.natCast_nonneg k
      have kl1 : (k : Int) < (r.f0.length : Int) := by omega
      go_wp2_with fail
      have SI := Aside0.mk (HIN.out x (List.mem_of_getElem? HXK.out))
      have WX : Aside0 (wS x ≤ 1048576) := ⟨Nat.le_trans (wS_le_wG (List.mem_of_getElem? HXK.out)) HW.out⟩
      refine (ratchetref06_sub.calls (wS x + 2) x.f0 A1' c1 x.f1 x.f2.f0 A3 c3 x.f2.f1 A4 c4 x.f2.f2 A5 c5 x.f2.f3 Ai ci ids (ids.length : Int) _ _ _ _ _ _ wr R1.out n1 R3.out n3 R4.out n4 R5.out n5 RI.out hci (r6sub ids (by omega) x SI.out WX.out _ (Nat.le_refl _))).mono ?_
      rintro e w3 ⟨v1, v3, v4, v5, rfl, h1, h3, h4, h5, hb3⟩
      have hm := k53_made (b := (mroll ids x).f0) (n := (mroll ids x).f2.f0) h1 (Kd.R_mono h3 (fun _ _ => trivial)) (Kd.R_mono h4 (fun _ _ => trivial)) h5
      have hm2 : k53.M w3 w.heap.size (fun k_ => wr.heap.size ≤ k_) (mroll ids x) [.bool (mroll ids x).f0, v1, .int .i64 (mroll ids x).f2.f0, v3, v4, v5] := k53.M_lower (Nat.le_of_lt (blk_lt O0.out.bx)) (k53.M_mono (fun k_ hk_ => hk_.2.1) (k53.M_bound hm))
      have O3 := Aside0.mk (O0.out.below hb3)
      have HZ3 : Aside0 (wr.heap.size ≤ w3.heap.size) := ⟨hb3.size⟩
      have HZW : Aside0 (w.heap.size ≤ w3.heap.size) := ⟨Nat.le_trans (Nat.le_of_lt (blk_lt O0.out.bx)) hb3.size⟩
      have NV : ∀ k_, wr.heap.size ≤ k_ → some k_ ≠ (Value.slice Av lo.length cv).ownBlock := fun k_ hk_ e_ => by obtain ⟨_, in_, ho_, _⟩ := O0.out.ov; have := own_lt ho_ k_ e_.symm; omega
      have HNV := Aside0.mk NV
      have HM2 := Aside0.mk hm2
      obtain ⟨y, hy⟩ : ∃ y, y = mroll ids x := ⟨_, rfl⟩
      rw [← hy] at HM2 ⊢
      have HY := Aside0.mk hy
      clear h1 h3 h4 h5 hm hm2 hb3 NV d0 d1 d2 d3 d4 d5 hy b0
      go_wp2_with (at_builtin; refine Kd.R_append k53 (w0 := w3) w.heap.size rfl (.tmp 18) (.tmp 28) 60 53 (.agg #[.bool false, .slice none 0 0, .int .i64 0, .slice none 0 0, .slice none 0 0, .slice none 0 0]) 112 rfl Tryd.underlying60 infoST rfl (by decide) (by omega) (.slice Av lo.length cv) lo y [.bool y.f0, v1, .int .i64 y.f2.f0, v3, v4, v5] (fun _ => True) (fun k_ => wr.heap.size ≤ k_) rfl rfl HM2.out (fun k_ hk_ => ⟨trivial, HNV.out k_ hk_⟩) (fun _ _ => trivial) O3.out.ov (Below.refl _ _) HZW.out (by omega) ?_; intro v6 w4 ho _ hg hat; have O4 := Aside0.mk (O3.out.app ho hg hat); clear ho hg hat)
      go_roundw
      case rel => exact ⟨k + 1, by go_num, by omega, by have e_ : (r.f0.take (k + 1)).map (mroll ids) = lo ++ [y] := (by rw [List.take_add_one, HXK.out, List.map_append, HLO.out, HY.out]; rfl); rw [e_]; exact O4.out⟩
      case measure => simp [intOf]; omega
    · obtain rfl : k = r.f0.length := by omega
      rw [List.take_length] at O0
      clear hk hlk
      rw [show r.f0.map (mroll ids) = o from HO.out.symm] at O0
      have hol : o.length ≤ 1048576 := by rw [HO.out, ownG_length]; exact hrl
      obtain ⟨Ao, co, hvo, hco, hCo⟩ := Kd.R_reads O0.out.ov
      subst hvo
      clear hCo
      obtain ⟨wk, rfl⟩ : ∃ wk : World, wk = wr := ⟨_, rfl⟩
      go_wp2_with fail
      go_loopw [9] (fun i W => ∃ (k : Nat), i = .int .i64 k ∧ k ≤ gs.length ∧ RO B g ok gs v w (.cells #[.slice Ar r.f0.length cr, .bool r.f1] 62 (0, 0)) (.slice Ao o.length co) o W ∧ ∀ (j : Nat) (x : List S53), j < k → gs[j]? = some x → x ≠ o) (fun i _ => gs.length - (intOf i).toNat)
      case atStart => exact ⟨0, rfl, Nat.zero_le _, O0.out, fun j x h => absurd h (Nat.not_lt_zero j)⟩
      case round =>
        clear O0 b0
        obtain ⟨k, rfl, hk, hRO, hno⟩ := hrel
        have O1 := Aside0.mk hRO
        have HNO := Aside0.mk hno
        clear hRO hno
        have t0 : wr.cell? ⟨g, 0, none⟩ = some v := (blk_cell O1.out.t.box 0).trans rfl
        obtain ⟨Av, cv, hvv, hcv, hCv⟩ := Kd.R_reads O1.out.t.row
        rw [rolsFrom_length] at hvv hcv
        have HVV := Aside0.mk hvv
        rw [hvv] at t0
        by_cases hlk : k < gs.length
        · obtain ⟨x, hx⟩ : ∃ x, gs[k]? = some x := ⟨_, List.getElem?_eq_getElem hlk⟩
          obtain ⟨ad, At, ct, ea, d0, d1, dl, dC⟩ := at_T132 hCv (k : Int) (by omega) (by rw [rolsFrom_length]; omega)
          rw [rdRol_at _ k _ (rolsFrom_get 0 gs k x hx)] at d0 d1 dl dC
          rw [Int.zero_add] at d1
          simp only [Int.toNat_natCast] at d0 d1
          dsimp only at d0 d1 dl dC
          cases ea
          have HX := Aside0.mk hx
          have WX : Aside0 (wG x ≤ 1048576) := ⟨HWG.out x (List.mem_of_getElem? hx)⟩
          have DC := Aside0.mk dC
          have OC : Aside0 (Kd.C k53 wr Ao o.length o) := ⟨by obtain ⟨_, _, e1, _, h1⟩ := Kd.R_reads O1.out.ov; injection e1 with e1 e2 e3; subst e1; exact h1⟩
          clear hCv dC hvv hx
          have kl0 : (0 : Int) ≤ (k : Int) := Int.natCast_nonneg k
          have kl1 : (k : Int) < (gs.length : Int) := by omega
          obtain ⟨f0, hf0⟩ : ∃ f0, f0 = firstOf gs k := ⟨_, rfl⟩
          rw [← hf0] at d1
          have HF0 := Aside0.mk hf0
          clear hf0
          go_wp2_with fail
          refine (ratchetref06_groups.calls (x.length + wG x + 5) At ct x Ao co o _ wr DC.out dl OC.out hco (r6groups x o WX.out _ (Nat.le_refl _))).mono ?_
          rintro e w3 ⟨rfl, hb3⟩
          have O3 := Aside0.mk (O1.out.below hb3)
          have t0' := hb3.cell (World.block_lt_of_cell? wr _ t0) |>.trans t0
          have d1' := hb3.cell (World.block_lt_of_cell? wr _ d1) |>.trans d1
          clear hb3 t0 d0 d1
          by_cases he : x = o
          · rw [decide_eq_true he]
            have HFK : Aside0 (findK gs o = some k) := ⟨findK_first (by rw [HX.out, he]) HNO.out⟩
            clear he
            go_wp2_with fail
            go_ret
            refine ⟨v, ?_, ?_, O3.out.fr⟩
            · rw [oneF_some HFK.out, HF0.out]; rfl
            · rw [oneG_some HFK.out]; exact O3.out.t.weak (fun _ hk_ => hk_.1)
          · rw [decide_eq_false he]
            have HNE := Aside0.mk he
            clear he
            go_wp2_with fail
            go_roundw
            case rel => exact ⟨k + 1, by go_num, by omega, O3.out, fun j y hj hy => by rcases Nat.lt_or_ge j k with hl | hl; exact HNO.out j y hl hy; obtain rfl : j = k := (by omega); rw [HX.out] at hy; injection hy with hy; subst hy; exact HNE.out⟩
            case measure => simp [intOf]; omega
        · obtain rfl : k = gs.length := by omega
          have HFK : Aside0 (findK gs o = none) := ⟨findK_no HNO.out⟩
          obtain ⟨wq, rfl⟩ : ∃ wq : World, wq = wr := ⟨_, rfl⟩
          clear hk hlk hCv
          obtain ⟨mg, hmg⟩ : ∃ mg, mg = manyOf gs := ⟨_, rfl⟩
          have HMG := Aside0.mk hmg
          have t1 : wq.cell? ⟨g, 1, none⟩ = some (.int .i64 mg) := by rw [hmg]; exact (blk_cell O1.out.t.box 1).trans rfl
          have hm0 : 0 ≤ mg := by rw [hmg]; exact HM.out.1
          have hm1 : mg ≤ 1099511627776 := by rw [hmg]; exact HM.out.2
          clear hmg
          have hws : wrap64 (mg + (o.length : Int)) = mg + o.length := by unfold wrap64; omega
          subst hvv
          have T1 : Aside0 (R6 B g (OkN ok w.heap.size) gs (.slice Av gs.length cv) wq) := ⟨O1.out.t.weak (fun _ hk_ => hk_.1)⟩
          have HMM : Aside0 (k132.M wq B (fun k_ => OkN ok w.heap.size k_ ∧ some k_ ≠ (Value.slice Av gs.length cv).ownBlock) ⟨o, mg⟩ [.slice Ao o.length co, .int .i64 mg]) := ⟨⟨[.slice Ao o.length co], [.int .i64 mg], rfl, ⟨_, rfl, Kd.R_mono (R_apart O1.out.t.row (Kd.R_lower (Kd.R_bound O1.out.ov) HB.out) (by decide)) (fun k_ hk_ => ⟨.inr hk_.1.2.1, hk_.2⟩)⟩, rfl⟩⟩
          have HZN : Aside0 (w.heap.size ≤ wq.heap.size) := ⟨O1.out.fr.bel.size⟩
          have HZB : Aside0 (B ≤ wq.heap.size) := ⟨Nat.le_trans HB.out O1.out.fr.bel.size |> fun h => O1.out.fr.zz⟩
          go_wp2_with (at_builtin; refine Kd.R_append k132 (w0 := wq) B rfl (.tmp 65) (.tmp 69) 87 132 (.agg #[.slice none 0 0, .int .i64 0]) 32 rfl Tryd.underlying87 infoRol rfl (by decide) (by omega) (.slice Av gs.length cv) (rolsFrom 0 gs) (⟨o, mg⟩ : S132) [.slice Ao o.length co, .int .i64 mg] (OkN ok w.heap.size) (fun k_ => OkN ok w.heap.size k_ ∧ some k_ ≠ (Value.slice Av gs.length cv).ownBlock) rfl rfl HMM.out (fun k_ hk_ => hk_) (fun k_ hk_ => .inr (Nat.le_trans HZN.out hk_)) T1.out.row (Below.refl _ _) HZB.out (by rw [rolsFrom_length]; omega) ?_; intro v6 w4 ho _ hg hat; have e_ : rolsFrom 0 gs ++ [⟨o, mg⟩] = rolsFrom 0 (gs ++ [o]) := (by rw [rolsFrom_snoc, Int.zero_add, HMG.out]); rw [e_] at ho; obtain ⟨A6, c6, e6⟩ := Kd.R_slice ho; rw [rolsFrom_length, List.length_append, List.length_singleton] at e6; subst e6; have b4 := blk_grown T1.out.box hg (Kd.R_ne T1.out.row T1.out.box (by decide)); have x1 : w4.cell? ⟨g, 1, none⟩ = some (.int .i64 mg) := (by rw [HMG.out]; exact (blk_cell b4 1).trans rfl); have y0 : w4.frozen? ⟨g, 0, none⟩ = false := blk_frozen b4 0; have y1 : w4.frozen? ⟨g, 1, none⟩ = false := blk_frozen b4 1; have x0 : w4.cell? ⟨g, 0, none⟩ = some (.slice Av gs.length cv) := (blk_cell b4 0).trans rfl; have T4 := Aside0.mk (T1.out.put ho hg); have F4 := Aside0.mk (((O1.out.fr.fams T1.out.row hg).store HBG.out 0 (.slice A6 (gs.length + 1) c6)).store HBG.out 1 (.int .i64 (manyOf gs + o.length))); rw [← HMG.out] at T4 F4; clear ho hg hat e_ b4)
          go_ret
          refine ⟨.slice A6 (gs.length + 1) c6, ?_, ?_, F4.out⟩
          · rw [oneF_none HFK.out, ← HMG.out]; rfl
          · rw [oneG_none HFK.out]; exact T4.out
theorem fr_row {B g b : Nat} {w W : World} {v : Value} {l : List Int} {B0 : Nat} {ok : Nat → Prop} (hf : FrA B g b w W) (hr : Kd.R (Kd.int .i64) 3 w B0 ok v l) (hg : ∃ cs t, w.heap[g]? = some (.cells cs t (0, 0)) ∧ t ≠ 3) (hb : ∀ cs t, w.heap[b]? ≠ some (.cells cs t (0, 0))) : Kd.R (Kd.int .i64) 3 W B0 (fun _ => True) v l := by
  refine Kd.R_mono (Kd.R_step (Kd.R_bound hr) (w1 := W) (fun k hk hlt => ?_)) (fun _ _ => trivial)
  obtain ⟨_, _, _, q, hq, cells, hc⟩ := hk
  have hq3 : q = 3 := List.mem_singleton.1 hq
  subst hq3
  rw [hc]
  refine hf.oth k _ hc ?_ ?_ ?_
  · rintro rfl
    obtain ⟨cs, t, h1, h2⟩ := hg
    rw [h1] at hc
    injection hc with hc
    injection hc with _ hc _
    exact h2 hc
  · rintro rfl
    exact hb _ _ hc
  · intro c_ fz_ e
    injection e with _ e _
    exact absurd e (by decide)
set_option maxRecDepth 100000 in
set_option maxHeartbeats 8000000 in
theorem one_calls (A1 : Option Addr) (c1 : Nat) (a : List S62) (A2 : Option Addr) (c2 : Nat) (b : List S62) (x y : Int) (w : World) (hCa : Kd.C k62 w A1 a.length a) (hca : a.length ≤ c1) (hCb : Kd.C k62 w A2 b.length b) (hcb : b.length ≤ c2)
    (hsa : ∀ r ∈ a, ∀ s ∈ r.f0, SOk (fun _ => True) s) (hsb : ∀ r ∈ b, ∀ s ∈ r.f0, SOk (fun _ => True) s) (hia : Clo a → ∀ r ∈ a, ∀ s ∈ r.f0, RIn s) (hib : Clo b → ∀ r ∈ b, ∀ s ∈ r.f0, RIn s) (hwa : wL a ≤ 1048576) (hwb : wL b ≤ 1048576) (hla : a.length ≤ 1048576) (hlb : b.length ≤ 1048576)
    (htab : Lib.TabBelow Tryd.prog w.heap.size w "internal/strconv.uint64pow10" .u64 Lib.pow10Tab) :
    Calls Tryd.prog 15 #[.slice A1 a.length c1, .slice A2 b.length c2, .int .i64 x, .int .i64 y] w fun e w' => e = .returned (.tuple #[.bool (oneM a b x y).1, .int .i64 (oneM a b x y).2]) ∧ Below w.heap.size w w' := by
  have hta : tcount a ≤ 1048576 := Nat.le_trans (tcount_le_wL a) hwa
  have htb : tcount b ≤ 1048576 := Nat.le_trans (tcount_le_wL b) hwb
  have N1 : Aside0 (tcount a ≤ 1099511627776) := ⟨by omega⟩
  have N2 : Aside0 (tcount b ≤ 1099511627776) := ⟨by omega⟩
  have N3 : Aside0 (a.length ≤ 1099511627776) := ⟨by omega⟩
  have N4 : Aside0 (b.length ≤ 1099511627776) := ⟨by omega⟩
  have HCA := Aside0.mk hCa
  have HCB := Aside0.mk hCb
  have HSA := Aside0.mk hsa
  have HSB := Aside0.mk hsb
  have HIA := Aside0.mk hia
  have HIB := Aside0.mk hib
  have HWA := Aside0.mk hwa
  have HWB := Aside0.mk hwb
  have HTAB := Aside0.mk htab
  clear hCa hCb hsa hsb hia hib hwa hwb htab
  go_enter Tryd.func15, Tryd.ntmps15
  go_wp2_with fail
  refine (closed_calls A1 c1 a w HCA.out hca (by omega) (by omega) HSA.out).mono ?_
  rintro e w1 ⟨⟨n, er, rfl, hcl⟩, hb1⟩
  have B1 := Aside0.mk hb1
  clear hb1
  rcases hcl with ⟨rfl, rfl, hcla⟩ | ⟨rfl, hncla⟩
  rotate_left
  · go_wp2_with fail
    go_ret2
    have e0 : oneM a b x y = (false, 50) := by unfold oneM; rw [if_neg (fun h => hncla h.1)]
    rw [e0]
    exact ⟨rfl, B1.out⟩
  have HCLA := Aside0.mk hcla
  clear hcla
  go_wp2_with fail
  refine (closed_calls A2 c2 b w1 (Kd.C_below HCB.out B1.out) hcb (by omega) (by omega) HSB.out).mono ?_
  rintro e w2 ⟨⟨n, er, rfl, hcl⟩, hb2⟩
  have B2 := Aside0.mk (B1.out.trans (hb2.mono B1.out.size))
  clear hb2
  rcases hcl with ⟨rfl, rfl, hclb⟩ | ⟨rfl, hnclb⟩
  rotate_left
  · go_wp2_with fail
    go_ret2
    have e0 : oneM a b x y = (false, 50) := by unfold oneM; rw [if_neg (fun h => hnclb h.2)]
    rw [e0]
    exact ⟨rfl, B2.out⟩
  have HCLB := Aside0.mk hclb
  clear hclb
  have HCA2 := Aside0.mk (Kd.C_below HCA.out B2.out)
  have HCB2 := Aside0.mk (Kd.C_below HCB.out B2.out)
  have out1 : ¬ (0 ≤ x ∧ x < tcount a ∧ 0 ≤ y ∧ y < tcount b) → oneM a b x y = (false, 1) := fun h => by unfold oneM; rw [if_pos ⟨HCLA.out, HCLB.out⟩, if_neg h]
  have OUT1 := Aside0.mk out1
  clear out1
  obtain ⟨ta, eta⟩ : ∃ ta : Nat, ta = tcount a := ⟨_, rfl⟩
  obtain ⟨tb, etb⟩ : ∃ tb : Nat, tb = tcount b := ⟨_, rfl⟩
  have KA := count_calls A1 c1 a w2 HCA2.out hca N1.out N3.out
  have KB : ∀ w3, Below w2.heap.size w2 w3 → _ := fun w3 h3 => count_calls A2 c2 b w3 (Kd.C_below HCB2.out h3) hcb N2.out N4.out
  rw [← eta] at KA hta OUT1
  rw [← etb] at htb OUT1
  simp only [← etb] at KB
  have ETA := Aside0.mk eta
  have ETB := Aside0.mk etb
  have KA' := Aside0.mk KA
  have KB' := Aside0.mk KB
  clear KA KB eta etb
  by_cases hx0 : x < 0
  · go_wp2_with fail
    go_ret2
    rw [OUT1.out (by omega)]
    exact ⟨rfl, B2.out⟩
  by_cases hx1 : (ta : Int) ≤ x
  · go_wp2_with (go_at_call 39; first | ((with_reducible refine KA'.out.mono ?_); rintro e w3 ⟨rfl, hb3⟩; have B3 := Aside0.mk (B2.out.trans (hb3.mono B2.out.size)); have HB3 := Aside0.mk hb3; clear hb3) | ((with_reducible refine (KB'.out w3 HB3.out).mono ?_); rintro e w4 ⟨rfl, hb4⟩; have B4 := Aside0.mk (B3.out.trans (hb4.mono B3.out.size)); clear hb4))
    go_ret2
    rw [OUT1.out (by omega)]
    exact ⟨rfl, B3.out⟩
  by_cases hy0 : y < 0
  · go_wp2_with (go_at_call 39; first | ((with_reducible refine KA'.out.mono ?_); rintro e w3 ⟨rfl, hb3⟩; have B3 := Aside0.mk (B2.out.trans (hb3.mono B2.out.size)); have HB3 := Aside0.mk hb3; clear hb3) | ((with_reducible refine (KB'.out w3 HB3.out).mono ?_); rintro e w4 ⟨rfl, hb4⟩; have B4 := Aside0.mk (B3.out.trans (hb4.mono B3.out.size)); clear hb4))
    go_ret2
    rw [OUT1.out (by omega)]
    exact ⟨rfl, B3.out⟩
  by_cases hy1 : (tb : Int) ≤ y
  · go_wp2_with (go_at_call 39; first | ((with_reducible refine KA'.out.mono ?_); rintro e w3 ⟨rfl, hb3⟩; have B3 := Aside0.mk (B2.out.trans (hb3.mono B2.out.size)); have HB3 := Aside0.mk hb3; clear hb3) | ((with_reducible refine (KB'.out w3 HB3.out).mono ?_); rintro e w4 ⟨rfl, hb4⟩; have B4 := Aside0.mk (B3.out.trans (hb4.mono B3.out.size)); clear hb4))
    go_ret2
    rw [OUT1.out (by omega)]
    exact ⟨rfl, B4.out⟩
  go_wp2_with (go_at_call 39; first | ((with_reducible refine KA'.out.mono ?_); rintro e w3 ⟨rfl, hb3⟩; have B3 := Aside0.mk (B2.out.trans (hb3.mono B2.out.size)); have HB3 := Aside0.mk hb3; clear hb3) | ((with_reducible refine (KB'.out w3 HB3.out).mono ?_); rintro e w4 ⟨rfl, hb4⟩; have B4 := Aside0.mk (B3.out.trans (hb4.mono B3.out.size)); clear hb4))
  refine (new_calls w4 (tab_mono (HTAB.out.on B4.out) B4.out.size)).mono ?_
  rintro e w5 ⟨rfl, ht5, hb5⟩
  have T5 := Aside0.mk ht5
  have B5 := Aside0.mk (B4.out.trans (hb5.mono B4.out.size))
  have B45 := Aside0.mk hb5
  clear ht5 hb5
  obtain ⟨B0, hB0⟩ : ∃ B0, B0 = w4.heap.size := ⟨_, rfl⟩
  rw [← hB0] at T5 B45 ⊢
  have HB0 := Aside0.mk hB0
  have HWB0 : Aside0 (w.heap.size ≤ B0) := ⟨by rw [hB0]; exact B4.out.size⟩
  have HZ5 : Aside0 (B0 ≤ w5.heap.size) := ⟨by rw [hB0]; exact B45.out.size⟩
  clear hB0
  go_wp2_with fail
  obtain ⟨g1, i1, ha1, hm1, hl1, hg1⟩ := addTo_room 9223372036854775807 a [] [] (by have h_ := N1.out; simp [manyOf]; omega)
  refine (add_calls ⟨B0, B0 + 1, 47, [.bool true], [], B0, a, 9223372036854775807, w5⟩ _ _ A1 c1 T5.out (Or.inl rfl) HZ5.out (LR.of_C HCA.out (fun W hW => B5.out.trans (hW.bel.mono HWB0.out))) hca (HIA.out HCLA.out) HWA.out hla (by show manyOf [] ≤ 1099511627776; simp [manyOf]) (by show ([] : List (List S53)).length ≤ 1099511627776; simp) ⟨by show (0 : Int) ≤ 9223372036854775807; decide, by show (9223372036854775807 : Int) ≤ 9223372036854775807; decide⟩).mono ?_
  intro e w6 hout
  unfold AddOut at hout
  dsimp only at hout
  rw [ha1] at hout
  obtain ⟨v6, D6, vi, rfl, hai⟩ := hout
  have A6 := Aside0.mk hai
  have F6 := Aside0.mk hai.fr
  obtain ⟨Ai, ci, hvi⟩ := Kd.R_slice hai.iv
  subst hvi
  have HA1 := Aside0.mk ha1
  have HL1 := Aside0.mk hl1
  clear hai ha1 hl1
  go_wp2_with fail
  obtain ⟨g2, i2, ha2, hm2, hl2, hg2⟩ := addTo_room 9223372036854775807 b g1 [] (by have h_ := N1.out; have h2_ := N2.out; have h3_ : manyOf [] = 0 := rfl; rw [h3_] at hm1; omega)
  have hB6 : B0 ≤ w6.heap.size := Nat.le_trans HZ5.out F6.out.bel.size
  refine (add_calls ⟨B0, B0 + 1, 47, [.bool true], g1, B0, b, 9223372036854775807, w6⟩ _ _ A2 c2 (A6.out.tb.weak (fun _ _ => trivial)) (Or.inl rfl) hB6 (LR.of_C HCB.out (fun W hW => (B5.out.trans (F6.out.bel.mono HWB0.out)).trans (hW.bel.mono HWB0.out))) hcb (HIB.out HCLB.out) HWB.out hlb (by have h_ := N1.out; have h0_ : tcount a ≤ 1048576 := Nat.le_trans (tcount_le_wL a) HWA.out; have h3_ : manyOf [] = 0 := rfl; rw [h3_] at hm1; dsimp only; omega) (by simp at hg1; dsimp only; omega) ⟨by show (0 : Int) ≤ 9223372036854775807; decide, by show (9223372036854775807 : Int) ≤ 9223372036854775807; decide⟩).mono ?_
  intro e w7 hout
  unfold AddOut at hout
  dsimp only at hout
  rw [ha2] at hout
  obtain ⟨v7, D7, vj, rfl, haj⟩ := hout
  have A7 := Aside0.mk haj
  obtain ⟨Aj, cj, hvj⟩ := Kd.R_slice haj.iv
  subst hvj
  have hri : Kd.R (Kd.int .i64) 3 w7 w5.heap.size (fun _ => True) (.slice Ai i1.length ci) i1 := fr_row haj.fr A6.out.iv ⟨_, _, A6.out.tb.box, by show (47 : Nat) ≠ 3; decide⟩ (fun cs t h => by obtain ⟨es, clock, hb, _⟩ := A6.out.tb.map; rw [hb] at h; cases h)
  obtain ⟨_, _, e1, hci, hCi⟩ := Kd.R_reads hri
  injection e1 with e1 e2 e3
  subst e1 e3
  obtain ⟨_, _, e4, hcj, hCj⟩ := Kd.R_reads haj.iv
  injection e4 with e4 e5 e6
  subst e4 e6
  have e0 : ([] : List Int).length = 0 := rfl
  have hli : (x : Int) < i1.length := by have h1_ := HL1.out; have h2_ := ETA.out; rw [e0] at h1_; omega
  have hlj : (y : Int) < i2.length := by have h2_ := ETB.out; rw [e0] at hl2; omega
  obtain ⟨ai, ei, hxi⟩ := Kd.at_int hCi x (by omega) hli
  obtain ⟨aj, ej, hyj⟩ := Kd.at_int hCj y (by omega) hlj
  subst ei ej
  have hone : oneM a b x y = (rd i1 x == rd i2 y, 0) := by
    unfold oneM oneIds
    rw [if_pos ⟨HCLA.out, HCLB.out⟩, if_pos (by have h1_ := ETA.out; have h2_ := ETB.out; omega), HA1.out]
    dsimp only
    rw [ha2]
  have B7 : Aside0 (Below w.heap.size w w7) := ⟨(B5.out.trans (F6.out.bel.mono HWB0.out)).trans (haj.fr.bel.mono HWB0.out)⟩
  have HX7 := Aside0.mk (And.intro hxi hyj)
  have HONE := Aside0.mk hone
  have hx' : 0 ≤ x := by omega
  have hy' : 0 ≤ y := by omega
  obtain ⟨li, hlie⟩ : ∃ li : Nat, li = i1.length := ⟨_, rfl⟩
  obtain ⟨lj, hlje⟩ : ∃ lj : Nat, lj = i2.length := ⟨_, rfl⟩
  rw [← hlie] at hli hci ⊢
  rw [← hlje] at hlj hcj ⊢
  obtain ⟨p1, hp1⟩ : ∃ p, p = rd i1 x := ⟨_, rfl⟩
  obtain ⟨p2, hp2⟩ : ∃ p, p = rd i2 y := ⟨_, rfl⟩
  rw [← hp1, ← hp2] at HONE HX7
  clear haj hri hCi hCj hxi hyj hone hm1 hg1 hm2 hl2 hg2 ha2 e0 hB6 hlie hlje hp1 hp2 e2 e5 hx0 hx1 hy0 hy1
  go_wp2_with fail
  refine start_ (n := 11) (S := fun w' => w'.cell? (ai.add x.toNat) = some (.int .i64 p1) ∧ w'.cell? (aj.add y.toNat) = some (.int .i64 p2)) (ds := []) #[false, false, false, false, false, false, false, false, false, false, false] (by kernel_rfl) rfl rfl ⟨HX7.out.1, HX7.out.2⟩ (fun hHeld => ?_)
  refine pure_ (i := 0) (N := some 73) (v := ?_) (a' := ?_) #[true, false, false, false, false, false, false, false, false, false, false] rfl rfl (by kernel_rfl) (fun _ _ _ h => h) (Or.inl ⟨by rfl, ?_⟩) ?_ ?_
  rotate_left
  · intro w'
    go_simp
    with_reducible rfl
  rotate_left
  · simp only [Act.put, List.setIfInBounds_toArray, List.set_cons_zero, List.set_cons_succ, i64_w, i32_w]
    rfl
  refine pure_ (i := 1) (N := some 74) (v := ?_) (a' := ?_) #[true, true, false, false, false, false, false, false, false, false, false] rfl rfl (by kernel_rfl) (fun _ _ _ h => h) (Or.inl ⟨by rfl, ?_⟩) ?_ ?_
  rotate_left
  · intro w'
    go_simp
    with_reducible rfl
  rotate_left
  · simp only [Act.put, List.setIfInBounds_toArray, List.set_cons_zero, List.set_cons_succ, i64_w, i32_w]
    rfl
  refine pure_ (i := 2) (N := some 75) (v := ?_) (a' := ?_) #[true, true, true, false, false, false, false, false, false, false, false] rfl rfl (by kernel_rfl) (fun _ _ _ h => h) (Or.inl ⟨by rfl, ?_⟩) ?_ ?_
  rotate_left
  · intro w'
    go_simp
    with_reducible rfl
  rotate_left
  · simp only [Act.put, List.setIfInBounds_toArray, List.set_cons_zero, List.set_cons_succ, i64_w, i32_w]
    rfl
  refine pure_ (i := 4) (N := some 77) (v := ?_) (a' := ?_) #[true, true, true, false, true, false, false, false, false, false, false] rfl rfl (by kernel_rfl) (fun _ _ _ h => h) (Or.inl ⟨by rfl, ?_⟩) ?_ ?_
  rotate_left
  · intro w'
    go_simp
    with_reducible rfl
  rotate_left
  · simp only [Act.put, List.setIfInBounds_toArray, List.set_cons_zero, List.set_cons_succ, i64_w, i32_w]
    rfl
  refine pure_ (i := 5) (N := some 78) (v := ?_) (a' := ?_) #[true, true, true, false, true, true, false, false, false, false, false] rfl rfl (by kernel_rfl) (fun _ _ _ h => h) (Or.inl ⟨by rfl, ?_⟩) ?_ ?_
  rotate_left
  · intro w'
    go_simp
    with_reducible rfl
  rotate_left
  · simp only [Act.put, List.setIfInBounds_toArray, List.set_cons_zero, List.set_cons_succ, i64_w, i32_w]
    rfl
  refine pure_ (i := 6) (N := some 79) (v := ?_) (a' := ?_) #[true, true, true, false, true, true, true, false, false, false, false] rfl rfl (by kernel_rfl) (fun _ _ _ h => h) (Or.inl ⟨by rfl, ?_⟩) ?_ ?_
  rotate_left
  · intro w'
    go_simp
    with_reducible rfl
  rotate_left
  · simp only [Act.put, List.setIfInBounds_toArray, List.set_cons_zero, List.set_cons_succ, i64_w, i32_w]
    rfl
  refine take_ (i := 3) (N := some 76) (v := ?_) (a' := ?_) #[true, true, true, true, true, true, true, false, false, false, false] rfl rfl (by kernel_rfl) (fun _ _ _ h => h) (Or.inl ⟨by rfl, ?_⟩) hHeld ?_ ?_
  rotate_left
  · rintro w' ⟨s0, s1⟩
    go_simp
    with_reducible rfl
  rotate_left
  · simp only [Act.put, List.setIfInBounds_toArray, List.set_cons_zero, List.set_cons_succ, i64_w, i32_w]
    rfl
  refine take_ (i := 7) (N := some 80) (v := ?_) (a' := ?_) #[true, true, true, true, true, true, true, true, false, false, false] rfl rfl (by kernel_rfl) (fun _ _ _ h => h) (Or.inl ⟨by rfl, ?_⟩) hHeld ?_ ?_
  rotate_left
  · rintro w' ⟨s0, s1⟩
    go_simp
    with_reducible rfl
  rotate_left
  · simp only [Act.put, List.setIfInBounds_toArray, List.set_cons_zero, List.set_cons_succ, i64_w, i32_w]
    rfl
  refine pure_ (i := 8) (N := some 81) (v := ?_) (a' := ?_) #[true, true, true, true, true, true, true, true, true, false, false] rfl rfl (by kernel_rfl) (fun _ _ _ h => h) (Or.inl ⟨by rfl, ?_⟩) ?_ ?_
  rotate_left
  · intro w'
    go_simp
    with_reducible rfl
  rotate_left
  · simp only [Act.put, List.setIfInBounds_toArray, List.set_cons_zero, List.set_cons_succ, i64_w, i32_w]
    rfl
  refine pure_ (i := 9) (N := some 8) (v := ?_) (a' := ?_) #[true, true, true, true, true, true, true, true, true, true, false] rfl rfl (by kernel_rfl) (fun _ _ _ h => h) (Or.inl ⟨by rfl, ?_⟩) ?_ ?_
  rotate_left
  · intro w'
    go_simp
    with_reducible rfl
  rotate_left
  · simp only [Act.put, List.setIfInBounds_toArray, List.set_cons_zero, List.set_cons_succ, i64_w, i32_w]
    rfl
  refine pure_ (i := 10) (N := some 9) (v := ?_) (a' := ?_) #[true, true, true, true, true, true, true, true, true, true, true] rfl rfl (by kernel_rfl) (fun _ _ _ h => h) (Or.inl ⟨by rfl, ?_⟩) ?_ ?_
  rotate_left
  · intro w'
    go_simp
    with_reducible rfl
  rotate_left
  · simp only [Act.put, List.setIfInBounds_toArray, List.set_cons_zero, List.set_cons_succ, i64_w, i32_w]
    rfl
  refine done_ (by kernel_rfl) ?_
  
  go_wp2_with fail
  go_ret2
  rw [HONE.out]
  exact ⟨rfl, B7.out.drew⟩
theorem addTo_le (most : Int) (l : List S62) : ∀ (gs gs' : List (List S53)) (ids ids' : List Int), addTo most (gs, ids) l = some (gs', ids') → manyOf gs' ≤ manyOf gs + tcount l ∧ gs'.length ≤ gs.length + l.length ∧ ids'.length = ids.length + tcount l := by
  induction l with
  | nil =>
    intro gs gs' ids ids' h
    simp only [addTo, Option.some.injEq, Prod.mk.injEq] at h
    obtain ⟨rfl, rfl⟩ := h
    exact ⟨by simp [tcount], by simp, by simp [tcount]⟩
  | cons r l ih =>
    intro gs gs' ids ids' h
    have ht : tcount (r :: l) = r.f0.length + tcount l := by simp [tcount]
    simp only [addTo] at h
    cases hs : addStep most (gs, ids) r with
    | none => rw [hs] at h; cases h
    | some st =>
      obtain ⟨gs1, ids1⟩ := st
      rw [hs] at h
      simp only [Option.bind_some] at h
      obtain ⟨h1, h2, h3⟩ := ih gs1 gs' ids1 ids' h
      unfold addStep at hs
      dsimp only at hs
      cases hf : findK gs (ownG ids r) with
      | some i =>
        rw [hf] at hs
        simp only [Option.some.injEq, Prod.mk.injEq] at hs
        obtain ⟨rfl, rfl⟩ := hs
        rw [List.length_append, idsFrom_length, ownG_length] at h3
        exact ⟨by omega, by simp; omega, by omega⟩
      | none =>
        rw [hf] at hs
        dsimp only at hs
        split at hs
        · cases hs
        · simp only [Option.some.injEq, Prod.mk.injEq] at hs
          obtain ⟨rfl, rfl⟩ := hs
          rw [manyOf_snoc, ownG_length] at h1
          rw [List.length_append, idsFrom_length, ownG_length] at h3
          rw [List.length_append, List.length_singleton] at h2
          exact ⟨by omega, by simp; omega, by omega⟩
theorem oneM_ok {a b : List S62} {x y : Int} (ca : Clo a) (cb : Clo b) (h : 0 ≤ x ∧ x < tcount a ∧ 0 ≤ y ∧ y < tcount b) : oneM a b x y = (rd (oneIds a b).1 x == rd (oneIds a b).2 y, 0) := by
  unfold oneM
  rw [if_pos ⟨ca, cb⟩, if_pos h]
/-- The ids of one list, in a table of its own. -/
theorem oneIds_self {l : List S62} (ht : tcount l ≤ 1048576) : ∃ g1 i1, addTo 9223372036854775807 ([], []) l = some (g1, i1) ∧ oneIds l l = (i1, i1) := by
  obtain ⟨g1, i1, h1, _, _, _⟩ := addTo_room 9223372036854775807 l [] [] (by simp [manyOf]; omega)
  have h2 := addTo_again 9223372036854775807 9223372036854775807 l [] g1 i1 h1 Dist.nil
  refine ⟨g1, i1, h1, ?_⟩
  unfold oneIds
  rw [h1]
  dsimp only
  rw [h2]
theorem one_calls' (A1 : Option Addr) (c1 : Nat) (a : List S62) (A2 : Option Addr) (c2 : Nat) (b : List S62) (x y : Int) (w : World) (ha : LA w A1 c1 a) (hb : LA w A2 c2 b) (htab : Lib.TabBelow Tryd.prog w.heap.size w "internal/strconv.uint64pow10" .u64 Lib.pow10Tab) :
    Calls Tryd.prog 15 #[.slice A1 a.length c1, .slice A2 b.length c2, .int .i64 x, .int .i64 y] w fun e w' => e = .returned (.tuple #[.bool (oneM a b x y).1, .int .i64 (oneM a b x y).2]) ∧ Below w.heap.size w w' :=
  one_calls A1 c1 a A2 c2 b x y w ha.C ha.cap hb.C hb.cap (sok_all (by have := ha.w; omega)) (sok_all (by have := hb.w; omega)) (rin_all (by have := ha.w; omega) ha.inn) (rin_all (by have := hb.w; omega) hb.inn) (by have := ha.w; omega) (by have := hb.w; omega) (by have := ha.w; omega) (by have := hb.w; omega) htab
set_option maxRecDepth 100000 in
theorem same_calls (A : Option Addr) (c : Nat) (l : List S62) (x y : Int) (w : World) (hl : LA w A c l) (htab : Lib.TabBelow Tryd.prog w.heap.size w "internal/strconv.uint64pow10" .u64 Lib.pow10Tab) (b : Bool) (k : Int) (hone : oneM l l x y = (b, k)) :
    Calls Tryd.prog 12 #[.slice A l.length c, .int .i64 x, .int .i64 y] w fun e w' => e = .returned (.tuple #[.bool b, .int .i64 k]) ∧ Below w.heap.size w w' := by
  have K := Aside0.mk (one_calls' A c l A c l x y w hl hl htab)
  rw [hone] at K
  clear hl htab hone
  go_enter Tryd.func12, Tryd.ntmps12
  go_wp2_with fail
  refine K.out.mono ?_
  rintro e w1 ⟨rfl, hb1⟩
  have HB1 := Aside0.mk hb1
  clear hb1 K
  go_wp2_with fail
  go_ret2
  exact ⟨rfl, HB1.out⟩
/-- While groups are added: the table, the ids so far. -/
structure RA (B g : Nat) (gs : List (List S53)) (v : Value) (w : World) (vi : Value) (ids : List Int) (W : World) : Prop where
  t : R6 B g (fun k => True ∧ some k ≠ vi.ownBlock) gs v W
  iv : Kd.R (Kd.int .i64) 3 W w.heap.size (fun _ => True) vi ids
  fr : FrR B g w W
section
variable {B g : Nat} {gs : List (List S53)} {v vi vi' : Value} {w W W' : World} {ids ids' : List Int}
theorem RA.below (h : RA B g gs v w vi ids W) (hb : Below W.heap.size W W') : RA B g gs v w vi ids W' := ⟨h.t.below hb, Kd.R_below h.iv hb, h.fr.below hb⟩
theorem RA.app (h : RA B g gs v w vi ids W) (hr : Kd.R (Kd.int .i64) 3 W' w.heap.size (fun _ => True) vi' ids') (hg : W.grownBy W' vi.ownBlock) (hat : vi'.ownBlock = vi.ownBlock ∨ ∃ b, vi'.ownBlock = some b ∧ W.heap.size ≤ b) : RA B g gs v w vi' ids' W' := by
  have t1 := h.t.grown h.iv (by decide) hg (fun k hk => hk.2)
  exact ⟨⟨t1.box, Kd.R_mono (Kd.R_after (ok := fun _ => True) h.t.row hg hat) (fun k hk => hk), t1.hg⟩, hr, h.fr.own h.iv hg⟩
end
theorem oneF_bd {gs : List (List S53)} {o : List S53} : 0 ≤ oneF gs o ∧ oneF gs o ≤ manyOf gs := by
  unfold oneF
  cases h : findK gs o with
  | some i =>
    obtain ⟨x, hx, hk⟩ := findK_some h
    have := firstOf_le gs i x hx
    dsimp only
    omega
  | none => exact ⟨manyOf_nonneg gs, Int.le_refl _⟩
/-- A step of adding, as the reference takes it. -/
theorem step_one {most : Int} {gs gs' : List (List S53)} {ids ids' : List Int} {r : S62} (h : addStep most (gs, ids) r = some (gs', ids')) (hm : manyOf gs ≤ most) : gs' = oneG gs (ownG ids r) ∧ ids' = ids ++ idsFrom (oneF gs (ownG ids r)) r.f0.length ∧ manyOf gs' ≤ most ∧ gs'.length ≤ gs.length + 1 ∧ manyOf gs' ≤ manyOf gs + r.f0.length ∧ ∀ x ∈ gs', x ∈ gs ∨ x = ownG ids r := by
  unfold addStep at h
  dsimp only at h
  cases hf : findK gs (ownG ids r) with
  | some i =>
    rw [hf] at h
    simp only [Option.some.injEq, Prod.mk.injEq] at h
    obtain ⟨rfl, rfl⟩ := h
    rw [oneG_some hf, oneF_some hf, ownG_length]
    exact ⟨rfl, rfl, hm, by omega, by omega, fun x hx => .inl hx⟩
  | none =>
    rw [hf] at h
    dsimp only at h
    split at h
    · cases h
    · rename_i hmm
      simp only [Option.some.injEq, Prod.mk.injEq] at h
      obtain ⟨rfl, rfl⟩ := h
      rw [oneG_none hf, oneF_none hf, manyOf_snoc, ownG_length]
      rw [ownG_length] at hmm
      refine ⟨rfl, rfl, by omega, by simp, by omega, fun x hx => ?_⟩
      rcases List.mem_append.1 hx with hx | hx
      · exact .inl hx
      · exact .inr (List.mem_singleton.1 hx)
/-- Adding succeeds step by step, if it does as a whole. -/
theorem addTo_at {most : Int} {st st' : List (List S53) × List Int} {l : List S62} (h : addTo most st l = some st') (j : Nat) : ∃ st1, addTo most st (l.take j) = some st1 := by
  cases hx : addTo most st (l.take j) with
  | some st1 => exact ⟨st1, rfl⟩
  | none => rw [addTo_stop most st l j hx] at h; cases h
def AddR (B g : Nat) (gs' : List (List S53)) (ids' : List Int) (w : World) (e : Ending) (w' : World) : Prop :=
  ∃ v' vi, e = .returned (.tuple #[vi, .int .i64 (-1)]) ∧ RA B g gs' v' w vi ids' w'
set_option maxRecDepth 100000 in
set_option maxHeartbeats 8000000 in
theorem r6add_calls (B g : Nat) (gs0 : List (List S53)) (v0 : Value) (A : Option Addr) (c : Nat) (l : List S62) (most : Int) (gs' : List (List S53)) (ids' : List Int) (w : World) (hT : R6 B g (fun _ => True) gs0 v0 w) (hB : B ≤ w.heap.size)
    (hL : LR (fun W => FrR B g w W) A l) (hcap : l.length ≤ c) (hin : ∀ r ∈ l, ∀ s ∈ r.f0, RIn s) (hw : wL l ≤ 1048576) (hl : l.length ≤ 1048576) (hm0 : manyOf gs0 ≤ 549755813888) (hg0 : gs0.length ≤ 549755813888) (hwg : ∀ x ∈ gs0, wG x ≤ 1048576) (hmm : manyOf gs0 ≤ most) (h : addTo most (gs0, []) l = some (gs', ids')) :
    Calls Tryd.prog 41 #[.pointer (some ⟨g, 0, none⟩), .slice A l.length c, .int .i64 most] w (AddR B g gs' ids' w) := by
  have HB := Aside0.mk hB
  have HLR := Aside0.mk hL
  have HIN := Aside0.mk hin
  have HW := Aside0.mk hw
  have HM0 := Aside0.mk (And.intro hm0 hg0)
  have HH := Aside0.mk h
  have TS : Aside0 (RA B g gs0 v0 w (.slice none 0 0) [] w) := ⟨hT.weak (fun k _ => ⟨trivial, by simp [Value.ownBlock]⟩), Kd.R_nil _ _ _ _ _, FrR.refl hB⟩
  have WG0 := Aside0.mk hwg
  have HMM := Aside0.mk hmm
  clear hT hB hL hin hw hm0 hg0 hwg h hmm
  go_enter Tryd.func41, Tryd.ntmps41
  go_wp2_with fail
  go_loopw [8, 9] (fun vi i W => ∃ (j : Nat) (gs : List (List S53)) (v : Value) (ids : List Int), i = .int .i64 j ∧ j ≤ l.length ∧ addTo most (gs0, []) (l.take j) = some (gs, ids) ∧ RA B g gs v w vi ids W ∧ AB2 (manyOf gs0) (tcount (l.take j)) (gs, ids) ∧ gs.length ≤ gs0.length + j ∧ (∀ x ∈ gs, wG x ≤ 1048576) ∧ manyOf gs ≤ most) (fun _ i _ => l.length - (intOf i).toNat)
  case atStart => exact ⟨0, gs0, v0, [], rfl, Nat.zero_le _, rfl, TS.out, AB2.start gs0, Nat.le_refl _, WG0.out, HMM.out⟩
  case round =>
    clear TS
    obtain ⟨j, gs, v, ids, rfl, hj, hst, hRA, hab, hgl, hwg, hmm⟩ := hrel
    have HST := Aside0.mk hst
    have HAB := Aside0.mk hab
    have HGL := Aside0.mk hgl
    have A0 := Aside0.mk hRA
    have HWG := Aside0.mk hwg
    have HMX := Aside0.mk hmm
    clear hst hab hgl hRA hwg hmm
    by_cases hlt : j < l.length
    · obtain ⟨wo, rfl⟩ : ∃ wo : World, wo = wr := ⟨_, rfl⟩
      obtain ⟨r, hr⟩ : ∃ r, l[j]? = some r := ⟨_, List.getElem?_eq_getElem hlt⟩
      obtain ⟨hd, hh⟩ := HLR.out
      obtain ⟨ad, rfl, hall⟩ := hh j r hr
      obtain ⟨⟨Ar, cr⟩, hrr⟩ : ∃ p : Option Addr × Nat, p = hd j := ⟨_, rfl⟩
      rw [← hrr] at hall
      dsimp only at hall
      obtain ⟨hc0, hc1, hc2, hc3⟩ := hall wo A0.out.fr
      have HR := Aside0.mk hr
      have HALL := Aside0.mk hall
      have hrl : r.f0.length ≤ 1048576 := by have h1 := tcount_take_le l j r hr; have h2 := tcount_le_wL l; have h3 := HW.out; omega
      obtain ⟨⟨gs2, ids2⟩, hs2⟩ := addTo_at HH.out (j + 1)
      have hs3 := hs2
      rw [addTo_take most _ l j r hr, HST.out] at hs3
      have HS2 := Aside0.mk hs2
      obtain ⟨eg2, ei2, hm2, hl2, hn2, hx2⟩ := step_one (show addStep most (gs, ids) r = some (gs2, ids2) from hs3) HMX.out
      have WR : Aside0 (wG r.f0 ≤ 1048576) := ⟨Nat.le_trans (wG_le_wL (List.mem_of_getElem? hr)) HW.out⟩
      have WG2 : Aside0 (∀ x ∈ gs2, wG x ≤ 1048576) := ⟨fun x hx => by rcases hx2 x hx with h | h; exact HWG.out x h; rw [h, wG_own]; exact WR.out⟩
      have ob := oneF_bd (gs := gs) (o := ownG ids r)
      have hab := HAB.out
      have hmn : manyOf gs ≤ 549755813888 + 1048576 := by have h0 := hab.many; dsimp only at h0; have h1 := tcount_take_le l j r hr; have h2 := tcount_le_wL l; have h3 := HW.out; have h4 := HM0.out.1; omega
      have hgn : gs.length ≤ 549755813888 + 1048576 := by have h0 := HGL.out; have h4 := HM0.out.2; omega
      have hidl : ids.length ≤ 1048576 := by have h0 := hab.len; dsimp only at h0; have h1 := tcount_take_le l j r hr; have h2 := tcount_le_wL l; have h3 := HW.out; omega
      have HMG2 : Aside0 (manyOf gs2 ≤ most) := ⟨hm2⟩
      have AB3 : Aside0 (AB2 (manyOf gs0) (tcount (l.take (j + 1))) (gs2, ids2)) := ⟨by rw [tcount_take l j r hr, ei2]; have h0 := hab.many; dsimp only at h0; exact hab.step ob.1 (by omega) (by push_cast; omega)⟩
      have GL2 : Aside0 (gs2.length ≤ gs0.length + (j + 1)) := ⟨by have := HGL.out; omega⟩
      have EG2 := Aside0.mk eg2
      have EI2 := Aside0.mk ei2
      have OB := Aside0.mk (And.intro ob.1 (Int.le_trans ob.2 hmn))
      have HN := Aside0.mk (And.intro hmn hgn)
      have HIL := Aside0.mk hidl
      obtain ⟨Ai, ci, hvi, hci, hCi⟩ := Kd.R_reads A0.out.iv
      subst hvi
      clear hCi hr hall hc3 hh hs2 hs3 eg2 ei2 hm2 hl2 hn2 hx2 ob hab hmn hgn hidl hrr
      have jl0 : (0 : Int) ≤ (j : Int) := Int.natCast_nonneg j
      have jl1 : (j : Int) < (l.length : Int) := by omega
      go_wp2_with fail
      refine (r6one_calls B g (fun k => True ∧ some k ≠ (Value.slice Ai ids.length ci).ownBlock) gs v Ar cr r Ai ci ids wo A0.out.t A0.out.fr.zz (fun W hW => (HALL.out W (A0.out.fr.trans hW)).2.2.2) hc2 (fun W hW => by obtain ⟨_, _, e1, _, h1⟩ := Kd.R_reads (hW.row A0.out.iv ⟨_, _, A0.out.t.box, by show (89 : Nat) ≠ 3; decide⟩); injection e1 with e1 e2 e3; subst e1; exact h1) hci (HIN.out r (List.mem_of_getElem? HR.out)) WR.out (by have := HIL.out; omega) (by have := HN.out.1; omega) (by have := HN.out.2; omega) HWG.out).mono ?_
      rintro e w3 ⟨v2, rfl, ht3, hf3⟩
      rw [← EG2.out] at ht3
      have hlt3 : ∀ k, (Value.slice Ai ids.length ci).ownBlock = some k → k < wo.heap.size := fun k hk => by obtain ⟨_, in_, ho_, _⟩ := A0.out.iv; exact own_lt ho_ k hk
      have A3 : Aside0 (RA B g gs2 v2 w (.slice Ai ids.length ci) ids w3) := ⟨ht3.weak (fun k hk => ⟨trivial, by rcases hk with hk | hk; exact hk.2; intro e_; have := hlt3 k e_.symm; omega⟩), hf3.row A0.out.iv ⟨_, _, A0.out.t.box, by show (89 : Nat) ≠ 3; decide⟩, A0.out.fr.trans hf3⟩
      obtain ⟨f0, hf0⟩ : ∃ f0, f0 = oneF gs (ownG ids r) := ⟨_, rfl⟩
      rw [← hf0]
      have HF0 := Aside0.mk hf0
      have hb0 : 0 ≤ f0 := by rw [hf0]; exact OB.out.1
      have hb1 : f0 ≤ 549755813888 + 1048576 := by rw [hf0]; exact OB.out.2
      obtain ⟨m2, hm2⟩ : ∃ m2, m2 = manyOf gs2 := ⟨_, rfl⟩
      have t1 : w3.cell? ⟨g, 1, none⟩ = some (.int .i64 m2) := by rw [hm2]; exact (blk_cell ht3.box 1).trans rfl
      have hmx : m2 ≤ most := by rw [hm2]; exact HMG2.out
      clear hf0 hm2 ht3 hf3 hlt3 hc0 hc1 hci
      go_wp2_with fail
      clear t1 hmx
      go_loopw [8, 11] (fun vi i W => ∃ (k : Nat), i = .int .i64 k ∧ k ≤ r.f0.length ∧ RA B g gs2 v2 w vi (ids ++ idsFrom f0 k) W) (fun _ i _ => r.f0.length - (intOf i).toNat)
      case atStart => exact ⟨0, rfl, Nat.zero_le _, by simpa [idsFrom] using A3.out⟩
      case round =>
        clear A3
        obtain ⟨k, rfl, hk, hRA⟩ := hrel
        have I1 := Aside0.mk hRA
        clear hRA
        obtain ⟨hc0, hc1, _, _⟩ := HALL.out wr I1.out.fr
        clear hc1
        by_cases hlk : k < r.f0.length
        · obtain ⟨li, hli⟩ : ∃ li_ : List Int, li_ = ids ++ idsFrom f0 k := ⟨_, rfl⟩
          rw [← hli] at I1
          have HLI := Aside0.mk hli
          have hil : li.length ≤ 4194304 := by rw [hli, List.length_append, idsFrom_length]; have := HIL.out; omega
          clear hli
          obtain ⟨Aj, cj, hvj⟩ := Kd.R_slice I1.out.iv
          subst hvj
          have hwf : wrap64 (f0 + (k : Int)) = f0 + k := by unfold wrap64; omega
          have HZW : Aside0 (w.heap.size ≤ wr.heap.size) := ⟨I1.out.fr.bel.size⟩
          go_wp2_with (at_builtin; refine Kd.R_append (Kd.int .i64) (w0 := wr) w.heap.size rfl (.tmp 42) (.tmp 46) 37 3 (.int .i64 0) 8 rfl Tryd.underlying37 info3 rfl (by decide) (by omega) (.slice Aj li.length cj) li (f0 + k) [.int .i64 (f0 + k)] (fun _ => True) (fun _ => False) rfl rfl rfl (fun _ hk_ => hk_.elim) (fun _ _ => trivial) I1.out.iv ⟨rfl, rfl, rfl, Nat.le_refl _, fun _ _ => rfl⟩ HZW.out (by omega) ?_; intro v5 w4 ho _ hg hat_; have I4 := Aside0.mk (I1.out.app ho hg hat_); clear ho hg hat_)
          go_roundw
          case rel => exact ⟨k + 1, by go_num, by omega, by have e_ : ids ++ idsFrom f0 (k + 1) = li ++ [f0 + k] := (by rw [idsFrom_succ, HLI.out, List.append_assoc]); rw [e_]; exact I4.out⟩
          case measure => simp [intOf]; omega
        · obtain rfl : k = r.f0.length := by omega
          clear hk hlk
          go_wp2_with fail
          go_roundw
          case rel => exact ⟨j + 1, gs2, v2, ids2, by go_num, by omega, HS2.out, by rw [EI2.out, ← HF0.out]; exact I1.out, AB3.out, GL2.out, WG2.out, HMG2.out⟩
          case measure => simp [intOf]; omega
    · obtain rfl : j = l.length := by omega
      have e0 := HST.out
      rw [List.take_length, HH.out] at e0
      simp only [Option.some.injEq, Prod.mk.injEq] at e0
      obtain ⟨e1, e2⟩ := e0
      subst e1 e2
      clear hj hlt
      go_wp2_with fail
      go_ret2
      exact ⟨v, _, rfl, A0.out⟩
end Go.Proofs.YtfgglniigeagdaaDoor.Cn
namespace Go.Proofs.YtfgglniigeagdaaDoor.Cn
set_option linter.unusedSimpArgs false
set_option linter.unusedVariables false
open Go.RowKit Go.Maps Go.Proofs.YtfgglniigeagdaaDoorW.PrintWords Go.Proofs.YtfgglniigeagdaaDoorW.PrintLast Go.Proofs.YtfgglniigeagdaaDoorW.PrintMore Go.Proofs.YtfgglniigeagdaaDoor.QD
theorem addStep_most {m1 m2 : Int} {st st1 st2 : List (List S53) × List Int} {r : S62} (h1 : addStep m1 st r = some st1) (h2 : addStep m2 st r = some st2) : st1 = st2 := by
  unfold addStep at h1 h2
  cases hf : findK st.1 (ownG st.2 r) with
  | some i =>
    rw [hf] at h1 h2
    dsimp only at h1 h2
    rw [h1] at h2
    injection h2
  | none =>
    rw [hf] at h1 h2
    dsimp only at h1 h2
    split at h1
    · cases h1
    · split at h2
      · cases h2
      · rw [h1] at h2
        injection h2
theorem addTo_most {m1 m2 : Int} (l : List S62) : ∀ {st st1 st2 : List (List S53) × List Int}, addTo m1 st l = some st1 → addTo m2 st l = some st2 → st1 = st2 := by
  induction l with
  | nil =>
    intro st st1 st2 h1 h2
    simp only [addTo] at h1 h2
    rw [h1] at h2
    injection h2
  | cons r l ih =>
    intro st st1 st2 h1 h2
    simp only [addTo] at h1 h2
    cases e1 : addStep m1 st r with
    | none => rw [e1] at h1; cases h1
    | some q1 =>
      cases e2 : addStep m2 st r with
      | none => rw [e2] at h2; cases h2
      | some q2 =>
        rw [e1] at h1
        rw [e2] at h2
        have := addStep_most e1 e2
        subst this
        exact ih h1 h2
theorem addTo_wg {most : Int} (l : List S62) : ∀ {gs gs' : List (List S53)} {ids ids' : List Int}, addTo most (gs, ids) l = some (gs', ids') → ∀ x ∈ gs', x ∈ gs ∨ ∃ r ∈ l, wG x = wG r.f0 := by
  induction l with
  | nil =>
    intro gs gs' ids ids' h x hx
    simp only [addTo, Option.some.injEq, Prod.mk.injEq] at h
    obtain ⟨rfl, rfl⟩ := h
    exact .inl hx
  | cons r l ih =>
    intro gs gs' ids ids' h x hx
    simp only [addTo] at h
    cases hs : addStep most (gs, ids) r with
    | none => rw [hs] at h; cases h
    | some st =>
      obtain ⟨gs1, ids1⟩ := st
      rw [hs] at h
      rcases ih h x hx with h1 | ⟨r', hr', e⟩
      · unfold addStep at hs
        dsimp only at hs
        cases hf : findK gs (ownG ids r) with
        | some i =>
          rw [hf] at hs
          simp only [Option.some.injEq, Prod.mk.injEq] at hs
          obtain ⟨rfl, rfl⟩ := hs
          exact .inl h1
        | none =>
          rw [hf] at hs
          dsimp only at hs
          split at hs
          · cases hs
          · simp only [Option.some.injEq, Prod.mk.injEq] at hs
            obtain ⟨rfl, rfl⟩ := hs
            rcases List.mem_append.1 h1 with h1 | h1
            · exact .inl h1
            · rw [List.mem_singleton.1 h1]
              exact .inr ⟨r, by simp, wG_own ids r⟩
      · exact .inr ⟨r', by simp [hr'], e⟩
theorem closed_ref (A : Option Addr) (c : Nat) (l : List S62) (w : World) (h : LA w A c l) : Calls Tryd.prog 32 #[.slice A l.length c] w fun e w' => (∃ n er : Int, e = .returned (.tuple #[.int .i64 n, .int .i64 er]) ∧ CloOut l n er) ∧ Below w.heap.size w w' := by
  obtain ⟨n, e, hf, ho⟩ := r5closed l (by have := h.w; omega) (by have := h.w; omega) _ (Nat.le_refl _)
  exact (ratchetref05_Closed.calls _ A c l n e w h.C h.cap hf).mono fun e' w' ⟨he, hb⟩ => ⟨⟨n, e, he, ho⟩, hb⟩
theorem CloOut.yes {l : List S62} {n e : Int} (h : CloOut l n e) (hc : Clo l) : n = 0 ∧ e = 0 := by
  rcases h with ⟨_, h1, h2⟩ | ⟨m, hb, _⟩
  · exact ⟨h1, h2⟩
  · exact absurd hc hb.not
theorem CloOut.no {l : List S62} {n e : Int} (h : CloOut l n e) (hc : ¬ Clo l) : e = 50 := by
  rcases h with ⟨h0, _⟩ | ⟨m, _, _, h2⟩
  · exact absurd h0 hc
  · exact h2
theorem LR.of_LA {w : World} {A : Option Addr} {c : Nat} {l : List S62} (h : LA w A c l) {S : World → Prop} (hS : ∀ W, S W → Below w.heap.size w W) : LR S A l := LR.of_C h.C hS
set_option maxRecDepth 100000 in
set_option maxHeartbeats 8000000 in
theorem r6One_calls (A1 : Option Addr) (c1 : Nat) (a : List S62) (A2 : Option Addr) (c2 : Nat) (b : List S62) (x y : Int) (w : World) (ha : LA w A1 c1 a) (hb : LA w A2 c2 b) (bo : Bool) (ko : Int) (hone : oneM a b x y = (bo, ko)) :
    Calls Tryd.prog 16 #[.slice A1 a.length c1, .slice A2 b.length c2, .int .i64 x, .int .i64 y] w fun e w' => e = .returned (.tuple #[.bool bo, .int .i64 ko]) ∧ Below w.heap.size w w' := by
  have HA := Aside0.mk ha
  have HB := Aside0.mk hb
  have HONE := Aside0.mk hone
  clear ha hb hone
  go_enter Tryd.func16, Tryd.ntmps16
  go_wp2_with fail
  refine (closed_ref A1 c1 a w HA.out).mono ?_
  rintro e w1 ⟨⟨n1, e1, rfl, ho1⟩, hb1⟩
  have B1 := Aside0.mk hb1
  have O1 := Aside0.mk ho1
  clear hb1 ho1
  go_wp2_with fail
  refine (closed_ref A2 c2 b w1 (HB.out.below B1.out)).mono ?_
  rintro e w2 ⟨⟨n2, e2, rfl, ho2⟩, hb2⟩
  have B2 := Aside0.mk (B1.out.trans (hb2.mono B1.out.size))
  have O2 := Aside0.mk ho2
  clear hb2 ho2
  by_cases hca : Clo a
  rotate_left
  · obtain rfl := O1.out.no hca
    have e0 : (bo, ko) = (false, (50 : Int)) := by rw [← HONE.out]; unfold oneM; rw [if_neg (fun h => hca h.1)]
    injection e0 with eb ek
    subst eb ek
    clear hca O1 O2
    go_wp2_with fail
    go_ret2
    exact ⟨rfl, B2.out⟩
  obtain ⟨rfl, rfl⟩ := O1.out.yes hca
  by_cases hcb : Clo b
  rotate_left
  · obtain rfl := O2.out.no hcb
    have e0 : (bo, ko) = (false, (50 : Int)) := by rw [← HONE.out]; unfold oneM; rw [if_neg (fun h => hcb h.2)]
    injection e0 with eb ek
    subst eb ek
    clear hcb O1 O2 hca
    go_wp2_with fail
    go_ret2
    exact ⟨rfl, B2.out⟩
  obtain ⟨rfl, rfl⟩ := O2.out.yes hcb
  have HCA := Aside0.mk hca
  have HCB := Aside0.mk hcb
  clear hca hcb O1 O2
  have T3 : Aside0 (R6 w2.heap.size w2.heap.size (fun _ => True) [] (.slice none 0 0) (w2.alloc (.cells #[.slice none 0 0, .int .i64 0] 89))) := ⟨blk_new w2 _, Kd.R_nil _ _ _ _ _, Nat.le_refl _⟩
  have B3 : Aside0 (Below w.heap.size w (w2.alloc (.cells #[.slice none 0 0, .int .i64 0] 89))) := ⟨B2.out.trans ((Below.refl _ _).alloc B2.out.size _)⟩
  have HZ3 : Aside0 (w2.heap.size ≤ (w2.alloc (.cells #[.slice none 0 0, .int .i64 0] 89)).heap.size) := ⟨by simp⟩
  have HWB : Aside0 (w.heap.size ≤ w2.heap.size) := ⟨B2.out.size⟩
  have hta : tcount a ≤ 1048576 := by have := tcount_le_wL a; have := HA.out.w; omega
  have htb : tcount b ≤ 1048576 := by have := tcount_le_wL b; have := HB.out.w; omega
  have e0 : manyOf [] = 0 := rfl
  obtain ⟨g1, i1, ha1, hm1, hl1, hg1⟩ := addTo_room 9223372036854775807 a [] [] (by rw [e0]; omega)
  obtain ⟨g2, i2, ha2, hm2, hl2, hg2⟩ := addTo_room 9223372036854775807 b g1 [] (by rw [e0] at hm1; omega)
  obtain ⟨g1', i1', ka1, km1, kx1, ky1⟩ := addTo_room 4611686018427387904 a [] [] (by rw [e0]; omega)
  have q1 := addTo_most a ha1 ka1
  injection q1 with q1 q1'
  subst q1 q1'
  obtain ⟨g2', i2', ka2, km2, kx2, ky2⟩ := addTo_room 4611686018427387904 b g1 [] (by rw [e0] at hm1; omega)
  have q2 := addTo_most b ha2 ka2
  injection q2 with q2 q2'
  subst q2 q2'
  have hids : oneIds a b = (i1, i2) := by unfold oneIds; rw [ha1]; dsimp only; rw [ha2]
  have HIDS := Aside0.mk hids
  have KA1 := Aside0.mk ka1
  have KA2 := Aside0.mk ka2
  have HL1 := Aside0.mk hl1
  have HL2 := Aside0.mk hl2
  have HM1 : Aside0 (manyOf g1 ≤ 1048576 ∧ g1.length ≤ 1048576) := ⟨by rw [e0] at hm1; omega, by have h1_ : ([] : List (List S53)).length = 0 := rfl; rw [h1_] at hg1; have := HA.out.w; omega⟩
  clear ha1 ha2 hm1 hm2 hg1 hg2 hl1 hl2 ka1 ka2 km1 km2 kx1 ky1 kx2 ky2 hids e0
  go_wp2_with fail
  refine (r6add_calls w2.heap.size w2.heap.size [] (.slice none 0 0) A1 c1 a 4611686018427387904 g1 i1 _ T3.out HZ3.out (LR.of_LA HA.out (fun W hW => B3.out.trans (hW.bel.mono HWB.out))) HA.out.cap (rin_all (by have := HA.out.w; omega) HA.out.inn HCA.out) (by have := HA.out.w; omega) (by have := HA.out.w; omega) (by simp [manyOf]) (by simp) (fun x hx => by cases hx) (by simp [manyOf]) KA1.out).mono ?_
  rintro e w4 ⟨v4, vi, rfl, hra⟩
  have A4 := Aside0.mk hra
  obtain ⟨Ai, ci, hvi⟩ := Kd.R_slice hra.iv
  subst hvi
  have B4 : Aside0 (Below w.heap.size w w4) := ⟨B3.out.trans (hra.fr.bel.mono HWB.out)⟩
  clear hra
  go_wp2_with fail
  refine (r6add_calls w2.heap.size w2.heap.size g1 v4 A2 c2 b 4611686018427387904 g2 i2 w4 (A4.out.t.weak (fun _ _ => trivial)) A4.out.fr.zz (LR.of_LA HB.out (fun W hW => B4.out.trans (hW.bel.mono HWB.out))) HB.out.cap (rin_all (by have := HB.out.w; omega) HB.out.inn HCB.out) (by have := HB.out.w; omega) (by have := HB.out.w; omega) (by have := HM1.out.1; omega) (by have := HM1.out.2; omega) (fun x hx => by rcases addTo_wg a KA1.out x hx with h_ | ⟨r_, hr_, h_⟩; cases h_; rw [h_]; exact Nat.le_trans (wG_le_wL hr_) (by have := HA.out.w; omega)) (by have := HM1.out.1; omega) KA2.out).mono ?_
  rintro e w5 ⟨v5, vj, rfl, hrb⟩
  obtain ⟨Aj, cj, hvj⟩ := Kd.R_slice hrb.iv
  subst hvj
  have B5 : Aside0 (Below w.heap.size w w5) := ⟨B4.out.trans (hrb.fr.bel.mono HWB.out)⟩
  have hri := hrb.fr.row A4.out.iv ⟨_, _, A4.out.t.box, by show (89 : Nat) ≠ 3; decide⟩
  obtain ⟨_, _, e1, hci, hCi⟩ := Kd.R_reads hri
  injection e1 with e1 e2 e3
  subst e1 e3
  obtain ⟨_, _, e4, hcj, hCj⟩ := Kd.R_reads hrb.iv
  injection e4 with e4 e5 e6
  subst e4 e6
  have e0 : ([] : List Int).length = 0 := rfl
  have hl1 : i1.length = tcount a := by have h_ := HL1.out; rw [e0] at h_; omega
  have hl2 : i2.length = tcount b := by have h_ := HL2.out; rw [e0] at h_; omega
  have out1 : ¬ (0 ≤ x ∧ x < (i1.length : Int) ∧ 0 ≤ y ∧ y < (i2.length : Int)) → bo = false ∧ ko = 1 := fun h => by
    rw [hl1, hl2] at h
    have e0 : (bo, ko) = (false, (1 : Int)) := by rw [← HONE.out]; unfold oneM; rw [if_pos ⟨HCA.out, HCB.out⟩, if_neg h]
    injection e0 with eb ek
    exact ⟨eb, ek⟩
  have out2 : (0 ≤ x ∧ x < (i1.length : Int) ∧ 0 ≤ y ∧ y < (i2.length : Int)) → bo = (rd i1 x == rd i2 y) ∧ ko = 0 := fun h => by
    rw [hl1, hl2] at h
    have e0 := oneM_ok HCA.out HCB.out h
    rw [HONE.out, HIDS.out] at e0
    injection e0 with eb ek
    exact ⟨eb, ek⟩
  have OUT1 := Aside0.mk out1
  have OUT2 := Aside0.mk out2
  have HCI := Aside0.mk hCi
  have HCJ := Aside0.mk hCj
  clear hrb hri hCi hCj e2 e5 e0 hl1 hl2 out1 out2 hci hcj
  by_cases hx0 : x < 0
  · obtain ⟨rfl, rfl⟩ := OUT1.out (by omega)
    go_wp2_with fail
    go_ret2
    exact ⟨rfl, B5.out⟩
  by_cases hx1 : (i1.length : Int) ≤ x
  · obtain ⟨rfl, rfl⟩ := OUT1.out (by omega)
    go_wp2_with fail
    go_ret2
    exact ⟨rfl, B5.out⟩
  by_cases hy0 : y < 0
  · obtain ⟨rfl, rfl⟩ := OUT1.out (by omega)
    go_wp2_with fail
    go_ret2
    exact ⟨rfl, B5.out⟩
  by_cases hy1 : (i2.length : Int) ≤ y
  · obtain ⟨rfl, rfl⟩ := OUT1.out (by omega)
    go_wp2_with fail
    go_ret2
    exact ⟨rfl, B5.out⟩
  obtain ⟨eb, rfl⟩ := OUT2.out (by omega)
  have hx' : 0 ≤ x := by omega
  have hy' : 0 ≤ y := by omega
  have hli : x < (i1.length : Int) := by omega
  have hlj : y < (i2.length : Int) := by omega
  obtain ⟨ai, ei, hxi⟩ := Kd.at_int HCI.out x hx' hli
  obtain ⟨aj, ej, hyj⟩ := Kd.at_int HCJ.out y hy' hlj
  subst ei ej
  obtain ⟨p1, hp1⟩ : ∃ p, p = rd i1 x := ⟨_, rfl⟩
  obtain ⟨p2, hp2⟩ : ∃ p, p = rd i2 y := ⟨_, rfl⟩
  rw [← hp1, ← hp2] at eb
  rw [← hp1] at hxi
  rw [← hp2] at hyj
  subst eb
  have HX := Aside0.mk (And.intro hxi hyj)
  clear hxi hyj hp1 hp2 hx0 hx1 hy0 hy1
  go_wp2_with fail
  refine start_ (n := 11) (S := fun w' => w'.cell? (ai.add x.toNat) = some (.int .i64 p1) ∧ w'.cell? (aj.add y.toNat) = some (.int .i64 p2)) (ds := []) #[false, false, false, false, false, false, false, false, false, false, false] (by kernel_rfl) rfl rfl ⟨HX.out.1, HX.out.2⟩ (fun hHeld => ?_)
  refine pure_ (i := 0) (N := some 67) (v := ?_) (a' := ?_) #[true, false, false, false, false, false, false, false, false, false, false] rfl rfl (by kernel_rfl) (fun _ _ _ h => h) (Or.inl ⟨by rfl, ?_⟩) ?_ ?_
  rotate_left
  · intro w'
    go_simp
    with_reducible rfl
  rotate_left
  · simp only [Act.put, List.setIfInBounds_toArray, List.set_cons_zero, List.set_cons_succ, i64_w, i32_w]
    rfl
  refine pure_ (i := 1) (N := some 68) (v := ?_) (a' := ?_) #[true, true, false, false, false, false, false, false, false, false, false] rfl rfl (by kernel_rfl) (fun _ _ _ h => h) (Or.inl ⟨by rfl, ?_⟩) ?_ ?_
  rotate_left
  · intro w'
    go_simp
    with_reducible rfl
  rotate_left
  · simp only [Act.put, List.setIfInBounds_toArray, List.set_cons_zero, List.set_cons_succ, i64_w, i32_w]
    rfl
  refine pure_ (i := 2) (N := some 69) (v := ?_) (a' := ?_) #[true, true, true, false, false, false, false, false, false, false, false] rfl rfl (by kernel_rfl) (fun _ _ _ h => h) (Or.inl ⟨by rfl, ?_⟩) ?_ ?_
  rotate_left
  · intro w'
    go_simp
    with_reducible rfl
  rotate_left
  · simp only [Act.put, List.setIfInBounds_toArray, List.set_cons_zero, List.set_cons_succ, i64_w, i32_w]
    rfl
  refine pure_ (i := 4) (N := some 71) (v := ?_) (a' := ?_) #[true, true, true, false, true, false, false, false, false, false, false] rfl rfl (by kernel_rfl) (fun _ _ _ h => h) (Or.inl ⟨by rfl, ?_⟩) ?_ ?_
  rotate_left
  · intro w'
    go_simp
    with_reducible rfl
  rotate_left
  · simp only [Act.put, List.setIfInBounds_toArray, List.set_cons_zero, List.set_cons_succ, i64_w, i32_w]
    rfl
  refine pure_ (i := 5) (N := some 72) (v := ?_) (a' := ?_) #[true, true, true, false, true, true, false, false, false, false, false] rfl rfl (by kernel_rfl) (fun _ _ _ h => h) (Or.inl ⟨by rfl, ?_⟩) ?_ ?_
  rotate_left
  · intro w'
    go_simp
    with_reducible rfl
  rotate_left
  · simp only [Act.put, List.setIfInBounds_toArray, List.set_cons_zero, List.set_cons_succ, i64_w, i32_w]
    rfl
  refine pure_ (i := 6) (N := some 73) (v := ?_) (a' := ?_) #[true, true, true, false, true, true, true, false, false, false, false] rfl rfl (by kernel_rfl) (fun _ _ _ h => h) (Or.inl ⟨by rfl, ?_⟩) ?_ ?_
  rotate_left
  · intro w'
    go_simp
    with_reducible rfl
  rotate_left
  · simp only [Act.put, List.setIfInBounds_toArray, List.set_cons_zero, List.set_cons_succ, i64_w, i32_w]
    rfl
  refine take_ (i := 3) (N := some 70) (v := ?_) (a' := ?_) #[true, true, true, true, true, true, true, false, false, false, false] rfl rfl (by kernel_rfl) (fun _ _ _ h => h) (Or.inl ⟨by rfl, ?_⟩) hHeld ?_ ?_
  rotate_left
  · rintro w' ⟨s0, s1⟩
    go_simp
    with_reducible rfl
  rotate_left
  · simp only [Act.put, List.setIfInBounds_toArray, List.set_cons_zero, List.set_cons_succ, i64_w, i32_w]
    rfl
  refine take_ (i := 7) (N := some 74) (v := ?_) (a' := ?_) #[true, true, true, true, true, true, true, true, false, false, false] rfl rfl (by kernel_rfl) (fun _ _ _ h => h) (Or.inl ⟨by rfl, ?_⟩) hHeld ?_ ?_
  rotate_left
  · rintro w' ⟨s0, s1⟩
    go_simp
    with_reducible rfl
  rotate_left
  · simp only [Act.put, List.setIfInBounds_toArray, List.set_cons_zero, List.set_cons_succ, i64_w, i32_w]
    rfl
  refine pure_ (i := 8) (N := some 75) (v := ?_) (a' := ?_) #[true, true, true, true, true, true, true, true, true, false, false] rfl rfl (by kernel_rfl) (fun _ _ _ h => h) (Or.inl ⟨by rfl, ?_⟩) ?_ ?_
  rotate_left
  · intro w'
    go_simp
    with_reducible rfl
  rotate_left
  · simp only [Act.put, List.setIfInBounds_toArray, List.set_cons_zero, List.set_cons_succ, i64_w, i32_w]
    rfl
  refine pure_ (i := 9) (N := some 8) (v := ?_) (a' := ?_) #[true, true, true, true, true, true, true, true, true, true, false] rfl rfl (by kernel_rfl) (fun _ _ _ h => h) (Or.inl ⟨by rfl, ?_⟩) ?_ ?_
  rotate_left
  · intro w'
    go_simp
    with_reducible rfl
  rotate_left
  · simp only [Act.put, List.setIfInBounds_toArray, List.set_cons_zero, List.set_cons_succ, i64_w, i32_w]
    rfl
  refine pure_ (i := 10) (N := some 9) (v := ?_) (a' := ?_) #[true, true, true, true, true, true, true, true, true, true, true] rfl rfl (by kernel_rfl) (fun _ _ _ h => h) (Or.inl ⟨by rfl, ?_⟩) ?_ ?_
  rotate_left
  · intro w'
    go_simp
    with_reducible rfl
  rotate_left
  · simp only [Act.put, List.setIfInBounds_toArray, List.set_cons_zero, List.set_cons_succ, i64_w, i32_w]
    rfl
  refine done_ (by kernel_rfl) ?_
  
  go_wp2_with fail
  go_ret2
  exact ⟨rfl, B5.out.drew⟩
set_option maxRecDepth 100000 in
theorem r6Same_calls (A : Option Addr) (c : Nat) (l : List S62) (x y : Int) (w : World) (hl : LA w A c l) (b : Bool) (k : Int) (hone : oneM l l x y = (b, k)) :
    Calls Tryd.prog 14 #[.slice A l.length c, .int .i64 x, .int .i64 y] w fun e w' => e = .returned (.tuple #[.bool b, .int .i64 k]) ∧ Below w.heap.size w w' := by
  have K := Aside0.mk (r6One_calls A c l A c l x y w hl hl b k hone)
  clear hl hone
  go_enter Tryd.func14, Tryd.ntmps14
  go_wp2_with fail
  refine K.out.mono ?_
  rintro e w1 ⟨rfl, hb1⟩
  have HB1 := Aside0.mk hb1
  clear hb1 K
  go_wp2_with fail
  go_ret2
  exact ⟨rfl, HB1.out⟩
/-- What an abstract heap type stands right below. -/
def upH (h : Int) : Int := if h = -2 then -1 else if h = -4 then -3 else if h = -6 then -5 else if h = -7 then -6 else if h = -8 then -6 else if h = -9 then -6 else if h = -12 then -11 else 0
def famH (h : Int) : Int := if h = -1 then -1 else if h = -2 then -1 else if h = -3 then -3 else if h = -4 then -3 else if h = -11 then -11 else if h = -12 then -11 else -5
def absL (x b : Int) : Bool := decide (x = b) || decide (upH x = b) || decide (upH (upH x) = b)
def absM (a b : Int) : Bool := if a = -10 then decide (b = -10) || decide (famH b = -5) else absL a b
theorem abs_cases {h : Int} (h0 : -12 ≤ h) (h1 : h ≤ 0) : h = 0 ∨ h = -1 ∨ h = -2 ∨ h = -3 ∨ h = -4 ∨ h = -5 ∨ h = -6 ∨ h = -7 ∨ h = -8 ∨ h = -9 ∨ h = -10 ∨ h = -11 ∨ h = -12 := by omega
theorem upH_gt {h : Int} (h0 : -12 ≤ h) (h1 : h < 0) : h < upH h ∧ upH h ≤ 0 ∧ upH h ≠ -10 ∧ -12 ≤ upH h := by
  rcases abs_cases h0 (by omega) with rfl | rfl | rfl | rfl | rfl | rfl | rfl | rfl | rfl | rfl | rfl | rfl | rfl <;> simp [upH] at * 
theorem upH3 {h : Int} (h0 : -12 ≤ h) (h1 : h ≤ 0) : upH (upH (upH h)) = 0 := by
  rcases abs_cases h0 h1 with rfl | rfl | rfl | rfl | rfl | rfl | rfl | rfl | rfl | rfl | rfl | rfl | rfl <;> simp [upH]
theorem absL_up {x b : Int} (h0 : -12 ≤ x) (h1 : x ≤ 0) (hb : b < 0) (hx : x ≠ b) : absL (upH x) b = absL x b := by
  unfold absL
  rw [upH3 h0 h1]
  have e1 : decide (x = b) = false := by simp [hx]
  have e2 : decide ((0 : Int) = b) = false := by simp; omega
  rw [e1, e2]
  simp
set_option maxRecDepth 100000 in
theorem up_index (h : Int) (h0 : -12 ≤ h) (h1 : h ≤ 0) (w : World) : (Instr.index 121 (.agg #[.int .i64 0, .int .i64 0, .int .i64 (-1), .int .i64 0, .int .i64 (-3), .int .i64 0, .int .i64 (-5), .int .i64 (-6), .int .i64 (-6), .int .i64 (-6), .int .i64 0, .int .i64 0, .int .i64 (-11)]) (.int .i64 (-h))).run Tryd.prog w = .ok (.int .i64 (upH h)) w := by
  rcases abs_cases h0 h1 with rfl | rfl | rfl | rfl | rfl | rfl | rfl | rfl | rfl | rfl | rfl | rfl | rfl <;>
    simp [Instr.index, Sem.run_bind, Value.cells, upH, go_sem]
set_option maxRecDepth 100000 in
theorem sup_calls (h : Int) (w : World) (h0 : -12 ≤ h) (h1 : h ≤ 0) : Calls Tryd.prog 61 #[.int .i64 h] w fun e w' => e = .returned (.int .i64 (upH h)) ∧ w' = w := by
  have hi := up_index h h0 h1
  have hw : wrap64 (-h) = -h := by unfold wrap64; omega
  go_enter Tryd.func61, Tryd.ntmps61
  go_wp2_with fail
  go_ret
  exact ⟨rfl, rfl⟩
set_option maxRecDepth 100000 in
theorem sfamily_calls (h : Int) (w : World) (h0 : -12 ≤ h) (h1 : h < 0) : Calls Tryd.prog 74 #[.int .i64 h] w fun e w' => e = .returned (.int .i64 (famH h)) ∧ w' = w := by
  go_enter Tryd.func74, Tryd.ntmps74
  go_wp2_with fail
  go_loopw [0] (fun v W => ∃ (x : Int), v = .int .i64 x ∧ -12 ≤ x ∧ x < 0 ∧ famH x = famH h ∧ W = w) (fun v _ => (-(intOf v)).toNat)
  case atStart => exact ⟨h, rfl, h0, h1, rfl, rfl⟩
  case round =>
    clear h0 h1
    obtain ⟨x, rfl, h0, h1, hf, rfl⟩ := hrel
    have up : ∀ y, -12 ≤ y → y ≤ 0 → Calls Tryd.prog 61 #[.int .i64 y] wr fun e w' => e = .returned (.int .i64 (upH y)) ∧ w' = wr := fun y a b => sup_calls y wr a b
    rcases abs_cases h0 (by omega) with rfl | rfl | rfl | rfl | rfl | rfl | rfl | rfl | rfl | rfl | rfl | rfl | rfl
    · exact absurd h1 (by decide)
    all_goals clear h0 h1
    all_goals go_wp2_with (refine (up _ (by decide) (by decide)).mono ?_; rintro e w' ⟨rfl, rfl⟩)
    all_goals first
      | (go_ret; exact ⟨by rw [← hf]; rfl, rfl⟩)
      | (go_roundw
         case rel => exact ⟨_, rfl, by decide, by decide, by rw [← hf]; rfl, trivial⟩
         case measure => decide)
set_option maxRecDepth 100000 in
theorem sabstract_calls (a b : Int) (w : World) (a0 : -12 ≤ a) (a1 : a < 0) (b0 : -12 ≤ b) (b1 : b < 0) : Calls Tryd.prog 72 #[.int .i64 a, .int .i64 b] w fun e w' => e = .returned (.bool (absM a b)) ∧ w' = w := by
  go_enter Tryd.func72, Tryd.ntmps72
  by_cases h10 : a = -10
  · subst h10
    have hf := sfamily_calls b w b0 b1
    by_cases hb : b = -10
    · subst hb
      go_wp2_with fail
      go_ret
      exact ⟨by simp [absM], rfl⟩
    · by_cases hq : famH b = -5
      · go_wp2_with (refine hf.mono ?_; rintro e w' ⟨rfl, rfl⟩)
        go_ret
        exact ⟨by simp [absM, hq], rfl⟩
      · go_wp2_with (refine hf.mono ?_; rintro e w' ⟨rfl, rfl⟩)
        go_ret
        exact ⟨by simp [absM, hq, hb], rfl⟩
  · have em : absM a b = absL a b := by unfold absM; rw [if_neg h10]
    have e10 : (a == -10) = false := by simp [h10]
    go_wp2_with fail
    go_loopw [0] (fun v W => ∃ (x : Int), v = .int .i64 x ∧ -12 ≤ x ∧ x ≤ 0 ∧ absL x b = absL a b ∧ W = w) (fun v _ => (-(intOf v)).toNat)
    case atStart => exact ⟨a, rfl, a0, by omega, rfl, rfl⟩
    case round =>
      obtain ⟨x, rfl, x0, x1, hf, rfl⟩ := hrel
      have up := sup_calls x wr x0 x1
      by_cases hx : x = 0
      · subst hx
        have hb0 : ¬ ((0 : Int) = b) := by omega
        go_wp2_with fail
        go_ret
        refine ⟨?_, rfl⟩
        rw [em, ← hf]
        simp [absL, upH, hb0]
      · by_cases hxb : x = b
        · subst hxb
          go_wp2_with fail
          go_ret
          refine ⟨?_, rfl⟩
          rw [em, ← hf]
          simp [absL]
        · have hg := upH_gt x0 (by omega)
          have hl := absL_up x0 x1 b1 hxb
          have e1 : (x != 0) = true := by simp [hx]
          have e2 : (x != b) = true := by simp [hxb]
          have e3 : (x != 0 && x != b) = true := by rw [e1, e2]; rfl
          go_wp2_with (refine up.mono ?_; rintro e w' ⟨rfl, rfl⟩)
          go_roundw
          case rel => exact ⟨_, rfl, hg.2.2.2, hg.2.1, by rw [hl]; exact hf, trivial⟩
          case measure => simp [intOf]; omega
/-- All types of a list. -/
def flat (l : List S62) : List S53 := l.flatMap (fun r => r.f0)
theorem flat_length (l : List S62) : (flat l).length = tcount l := by
  unfold flat tcount
  rw [List.length_flatMap]
theorem flat_get {l : List S62} {j : Nat} {r : S62} (hr : l[j]? = some r) {o : Nat} (ho : o < r.f0.length) : (flat l)[tcount (l.take j) + o]? = r.f0[o]? := by
  have hj := List.getElem?_eq_some_iff.1 hr
  obtain ⟨hjl, he⟩ := hj
  have e : l = l.take j ++ r :: l.drop (j + 1) := by
    subst he
    rw [List.getElem_cons_drop, List.take_append_drop]
  have e2 : flat l = flat (l.take j) ++ (r.f0 ++ flat (l.drop (j + 1))) := by
    conv => lhs; rw [e]
    unfold flat
    rw [List.flatMap_append, List.flatMap_cons]
  rw [e2, List.getElem?_append_right (by rw [flat_length]; omega), flat_length, Nat.add_sub_cancel_left, List.getElem?_append_left ho]
def tyAt (l : List S62) (n : Int) : S53 := rd_T53 (flat l) n
/-- Two types of a list are one. -/
def SameT (l : List S62) (x y : Nat) : Prop := (oneM l l (x : Int) (y : Int)).1 = true
/-- Numbers that two types share just if they are one. -/
def IdsOk (l : List S62) (I : List Int) : Prop := I.length = (flat l).length ∧ ∀ x y : Nat, x < (flat l).length → y < (flat l).length → (I[x]? = I[y]? ↔ SameT l x y)
structure Ctx (l : List S62) (cb : Nat) (W : World) : Prop where
  ex : ∃ (L : Value) (Ai : Option Addr) (ci : Nat) (Aa : Option Addr) (ca : Nat) (I : List Int), W.heap[cb]? = some (.cells #[L, .slice Ai I.length ci, .slice Aa (flat l).length ca] 109 (0, 0)) ∧ I.length ≤ ci ∧ (flat l).length ≤ ca ∧ Kd.C (Kd.int .i64) W Ai I.length I ∧ Kd.C k53 W Aa (flat l).length (flat l) ∧ IdsOk l I
theorem Ctx.below {l : List S62} {cb : Nat} {W W' : World} (h : Ctx l cb W) (hb : Below W.heap.size W W') : Ctx l cb W' := by
  obtain ⟨L, Ai, ci, Aa, ca, I, h1, h2, h3, h4, h5, h6⟩ := h.ex
  exact ⟨L, Ai, ci, Aa, ca, I, blk_below h1 hb, h2, h3, Kd.C_below h4 hb, Kd.C_below h5 hb, h6⟩
def isM (l : List S62) (h : Int) : Bool := decide (-12 ≤ h) && decide (h < ((flat l).length : Int))
def kindM (k : Int) : Int := if k = 1 then -1 else if k = 2 then -8 else -9
def kindOf (l : List S62) (n : Int) : Int := kindM (tyAt l n).f2.f0
theorem kindM_in (k : Int) : kindM k = -1 ∨ kindM k = -8 ∨ kindM k = -9 := by unfold kindM; split; (· simp); split <;> simp
set_option maxRecDepth 100000 in
theorem sis_calls (l : List S62) (cb : Nat) (h : Int) (w : World) (hc : Ctx l cb w) : Calls Tryd.prog 57 #[.pointer (some ⟨cb, 0, none⟩), .int .i64 h] w fun e w' => e = .returned (.bool (isM l h)) ∧ w' = w := by
  obtain ⟨L, Ai, ci, Aa, ca, I, h1, h2, h3, h4, h5, h6⟩ := hc.ex
  have x2 : w.cell? ⟨cb, 2, none⟩ = some (.slice Aa (flat l).length ca) := (blk_cell h1 2).trans rfl
  clear h1 h2 h3 h4 h5 h6 hc
  by_cases g : -12 ≤ h
  · go_enter Tryd.func57, Tryd.ntmps57
    go_wp2_with fail
    go_ret
    exact ⟨by simp [isM, g], rfl⟩
  · go_enter Tryd.func57, Tryd.ntmps57
    go_wp2_with fail
    go_ret
    exact ⟨by simp [isM]; omega, rfl⟩
set_option maxRecDepth 100000 in
theorem skind_calls (l : List S62) (cb : Nat) (n : Int) (w : World) (hc : Ctx l cb w) (n0 : 0 ≤ n) (n1 : n < ((flat l).length : Int)) : Calls Tryd.prog 60 #[.pointer (some ⟨cb, 0, none⟩), .int .i64 n] w fun e w' => e = .returned (.int .i64 (kindOf l n)) ∧ w' = w := by
  obtain ⟨L, Ai, ci, Aa, ca, I, h1, h2, h3, h4, h5, h6⟩ := hc.ex
  have x2 : w.cell? ⟨cb, 2, none⟩ = some (.slice Aa (flat l).length ca) := (blk_cell h1 2).trans rfl
  obtain ⟨ae, A1', c1, A3, c3, A4, c4, A5, c5, ea, d0, d1, d2, d3, d4, d5, m1, r1, m3, r3, m4, r4, m5, r5⟩ := at_T53 h5 n n0 n1
  subst ea
  have E : Aside0 (kindOf l n = kindM (rd_T53 (flat l) n).f2.f0) := ⟨rfl⟩
  obtain ⟨k, hk⟩ : ∃ k, k = (rd_T53 (flat l) n).f2.f0 := ⟨_, rfl⟩
  rw [← hk] at d2 E
  clear h1 h2 h3 h4 h5 h6 hc r1 r3 r4 r5 d0 d1 d3 d4 d5 m1 m3 m4 m5 hk
  by_cases g1 : k = 1
  · subst g1
    go_enter Tryd.func60, Tryd.ntmps60
    go_wp2_with fail
    go_ret
    exact ⟨by rw [E.out]; rfl, rfl⟩
  · by_cases g2 : k = 2
    · subst g2
      go_enter Tryd.func60, Tryd.ntmps60
      go_wp2_with fail
      go_ret
      exact ⟨by rw [E.out]; rfl, rfl⟩
    · go_enter Tryd.func60, Tryd.ntmps60
      go_wp2_with fail
      go_ret
      exact ⟨by rw [E.out]; simp [kindM, g1, g2], rfl⟩
/-- Elements that are lent out of a world that was: a row of one's own whose elements point at memory of others. -/
def kLent {α : Type} (d : Kd α) (w0 : World) : Kd α where
  sz := d.sz
  E := []
  K := fun _ x cs => d.K w0 x cs
  M := fun _ _ _ x cs => d.K w0 x cs
  K_len := fun h => d.K_len h
  K_one := fun h => d.K_one h
  K_below := fun _ h => h
  K_of_M := fun h => h
  M_mono := fun _ h => h
  M_bound := fun h => h
  M_move := fun _ h => h
  M_lower := fun _ h => h
theorem kLent_C {α : Type} {d : Kd α} {w0 W : World} {A : Option Addr} {n : Nat} {xs : List α} (h : Kd.C (kLent d w0) W A n xs) (hb : Below w0.heap.size w0 W) : Kd.C d W A n xs :=
  ReadsRow.imp_ (R := d.K w0) (size := d.sz) h (Below.refl _ _) (fun _ _ hp => d.K_below hb hp)
theorem flat_succ {l : List S62} {j : Nat} {r : S62} (h : l[j]? = some r) : flat (l.take (j + 1)) = flat (l.take j) ++ r.f0 := by
  unfold flat
  rw [List.take_add_one, h, List.flatMap_append]
  simp
theorem sameT_iff {l : List S62} (hc : Clo l) {g1 : List (List S53)} {i1 : List Int} (h : oneIds l l = (i1, i1)) {x y : Nat} (hx : x < tcount l) (hy : y < tcount l) : SameT l x y ↔ rd i1 x = rd i1 y := by
  unfold SameT
  rw [oneM_ok hc hc ⟨by omega, by omega, by omega, by omega⟩, h]
  simp
theorem idsOk_added {l : List S62} (hc : Clo l) (ht : tcount l ≤ 1048576) {m : Int} {g : List (List S53)} {I : List Int} (h : addTo m ([], []) l = some (g, I)) : IdsOk l I := by
  obtain ⟨g1, i1, h1, h2⟩ := oneIds_self ht
  have hlen : I.length = tcount l := by have := (addTo_le m l [] g [] I h).2.2; simpa using this
  refine ⟨by rw [flat_length]; exact hlen, fun x y hx hy => ?_⟩
  rw [flat_length] at hx hy
  rw [sameT_iff (g1 := g1) hc h2 hx hy, ← ids_alike hc h h1 Dist.nil Dist.nil x y ⟨by omega, by omega⟩ ⟨by omega, by omega⟩]
  obtain ⟨u, e1⟩ : ∃ u, I[x]? = some u := ⟨_, List.getElem?_eq_getElem (show x < I.length by omega)⟩
  obtain ⟨v, e2⟩ : ∃ v, I[y]? = some v := ⟨_, List.getElem?_eq_getElem (show y < I.length by omega)⟩
  rw [rd_eq I x u (by rw [Int.toNat_natCast]; exact e1), rd_eq I y v (by rw [Int.toNat_natCast]; exact e2), e1, e2]
  simp
/-- The numbers of the first k types are the least types that they are one with. -/
def IP (i1 : List Int) (n : Nat) (I : List Int) (k : Nat) : Prop := I.length = n ∧ ∀ x : Nat, x < k → ∃ q : Nat, q ≤ x ∧ I[x]? = some (q : Int) ∧ rd i1 q = rd i1 x ∧ ∀ j : Nat, j < q → rd i1 j ≠ rd i1 x
theorem IP.own {i1 I : List Int} {n k : Nat} (h : IP i1 n I k) (hk : k < n) (hj : ∀ j : Nat, j < k → rd i1 j ≠ rd i1 k) : IP i1 n (I.set k (k : Int)) (k + 1) := by
  refine ⟨by rw [List.length_set]; exact h.1, fun x hx => ?_⟩
  by_cases e : x = k
  · subst e
    exact ⟨x, Nat.le_refl _, by rw [List.getElem?_set_self (by have := h.1; omega)], rfl, hj⟩
  · obtain ⟨q, h1, h2, h3, h4⟩ := h.2 x (by omega)
    exact ⟨q, h1, by rw [List.getElem?_set_ne (by omega)]; exact h2, h3, h4⟩
theorem IP.other {i1 I : List Int} {n k q : Nat} (h : IP i1 n I k) (hk : k < n) (hq : q < k) (ht : rd i1 q = rd i1 k) (hj : ∀ j : Nat, j < q → rd i1 j ≠ rd i1 k) : I[q]? = some (q : Int) ∧ IP i1 n ((I.set k (k : Int)).set k (q : Int)) (k + 1) := by
  obtain ⟨q', g1, g2, g3, g4⟩ := h.2 q hq
  have e : q' = q := by
    rcases Nat.lt_or_ge q' q with hlt | hge
    · exact absurd (g3.trans ht) (hj q' hlt)
    · omega
  subst e
  refine ⟨g2, by rw [List.length_set, List.length_set]; exact h.1, fun x hx => ?_⟩
  by_cases e : x = k
  · subst e
    exact ⟨q', by omega, by rw [List.getElem?_set_self (by rw [List.length_set]; have := h.1; omega)], ht, hj⟩
  · obtain ⟨q, h1, h2, h3, h4⟩ := h.2 x (by omega)
    exact ⟨q, h1, by rw [List.getElem?_set_ne (by omega), List.getElem?_set_ne (by omega)]; exact h2, h3, h4⟩
theorem IP.ok {l : List S62} (hc : Clo l) {g1 : List (List S53)} {i1 I : List Int} (h1 : oneIds l l = (i1, i1)) (h : IP i1 (tcount l) I (tcount l)) : IdsOk l I := by
  refine ⟨by rw [flat_length]; exact h.1, fun x y hx hy => ?_⟩
  rw [flat_length] at hx hy
  rw [sameT_iff (g1 := g1) hc h1 hx hy]
  obtain ⟨p, a1, a2, a3, a4⟩ := h.2 x hx
  obtain ⟨q, b1, b2, b3, b4⟩ := h.2 y hy
  rw [a2, b2]
  constructor
  · intro e
    have e' : p = q := by injection e with e; omega
    subst e'
    exact a3.symm.trans b3
  · intro e
    rcases Nat.lt_trichotomy p q with hlt | rfl | hlt
    · exact absurd (a3.trans e) (b4 p hlt)
    · rfl
    · exact absurd (b3.trans e.symm) (a4 q hlt)
set_option maxRecDepth 100000 in
set_option maxHeartbeats 8000000 in
theorem ids_calls (A : Option Addr) (c : Nat) (l : List S62) (n : Nat) (w : World) (hl : LA w A c l) (hc : Clo l) (hn : n = tcount l) (htab : Lib.TabBelow Tryd.prog w.heap.size w "internal/strconv.uint64pow10" .u64 Lib.pow10Tab) :
    Calls Tryd.prog 71 #[.slice A l.length c, .int .i64 n] w fun e w' => ∃ v I, e = .returned v ∧ Kd.R (Kd.int .i64) 3 w' w.heap.size (fun _ => True) v I ∧ IdsOk l I ∧ Below w.heap.size w w' := by
  have HL := Aside0.mk hl
  have HC := Aside0.mk hc
  have HT := Aside0.mk htab
  have HN := Aside0.mk hn
  have htc := tcount_le_wL l
  have hw := hl.w
  have hn0 : n ≤ 1048576 := by omega
  have HTC : Aside0 (tcount l ≤ 1048576) := ⟨by omega⟩
  have HWL : Aside0 (wL l ≤ 1048576 ∧ l.length ≤ 1048576) := ⟨by omega, by omega⟩
  clear hl hc htab hn htc hw
  go_enter Tryd.func71, Tryd.ntmps71
  go_wp2_with fail
  refine (new_calls w HT.out).mono ?_
  rintro e w1 ⟨rfl, ht1, hb1⟩
  have B1 := Aside0.mk hb1
  have T1 := Aside0.mk ht1
  clear ht1 hb1
  go_wp2_with fail
  refine (tadd_calls w.heap.size (w.heap.size + 1) w.heap.size [] (.slice none 0 0) (.map []) A c l w1 T1.out B1.out.size (HL.out.below B1.out).C HL.out.cap (fun g' b' w' h1 h2 h3 => LR.of_C HL.out.C (fun W hW => (B1.out.trans (h1.mono B1.out.size)).trans (hW.bel.mono (Nat.le_refl _)))) (sok_all HWL.out.1) (rin_all HWL.out.1 HL.out.inn) HWL.out.1 HWL.out.2 (by simp [manyOf]) (by simp)).mono ?_
  intro e w2 hout
  unfold TAddOut at hout
  rcases hout with ⟨hnc, _⟩ | ⟨_, hout⟩
  · exact absurd HC.out hnc
  · cases hst : addTo 10000 ([], []) l with
    | some st =>
      obtain ⟨gs', I⟩ := st
      rw [hst] at hout
      obtain ⟨vi, v', b', D', rfl, _, hi, hf⟩ := hout
      have X : Aside0 (Kd.R (Kd.int .i64) 3 w2 w.heap.size (fun _ => True) vi I ∧ IdsOk l I ∧ Below w.heap.size w w2) := ⟨Kd.R_lower hi B1.out.size, idsOk_added HC.out HTC.out hst, B1.out.trans hf.bel⟩
      clear hi hf hst
      obtain ⟨Ai, ci, ev⟩ := Kd.R_slice X.out.1
      subst ev
      go_wp2_with fail
      go_ret
      exact ⟨_, I, rfl, X.out.1, X.out.2.1, X.out.2.2⟩
    | none =>
      rw [hst] at hout
      obtain ⟨⟨n2, rfl⟩, hf⟩ := hout
      have B2 : Aside0 (Below w.heap.size w w2) := ⟨B1.out.trans hf.bel⟩
      clear hf hst
      go_wp2_with (at_make; refine Kd.R_make (Kd.int .i64) (w0 := w) w.heap.size 3 rfl rfl 37 (.tmp 23) (.tmp 23) rfl (n : Int) rfl rfl Tryd.underlying37 (.int .i64 0) 8 info3 rfl (by decide) (by decide) 0 (ok := fun _ => True) (okp := fun _ => False) rfl (fun _ h => h.elim) trivial (by omega) (by simp; omega) B2.out B2.out.size ?_; intro v3 w3 ho hb hg hat; simp only [Int.toNat_natCast] at ho; obtain ⟨A3, c3, ev⟩ := Kd.R_slice ho; rw [List.length_replicate] at ev; subst ev; have R3 := Aside0.mk ho; have B3 := Aside0.mk hb; clear ho hb hg hat)
      obtain ⟨g1, i1, _, h2⟩ := oneIds_self (l := l) HTC.out
      have HO := Aside0.mk h2
      clear h2
      go_loopw [27] (fun i W => ∃ (k : Nat) (I : List Int), i = .int .i64 k ∧ k ≤ n ∧ Kd.R (Kd.int .i64) 3 W w.heap.size (fun _ => True) (.slice A3 n c3) I ∧ IP i1 n I k ∧ Below w.heap.size w W) (fun i _ => n - (intOf i).toNat)
      case atStart => exact ⟨0, _, rfl, Nat.zero_le _, R3.out, ⟨by simp, fun x hx => by omega⟩, B3.out⟩
      case round =>
        obtain ⟨k, I, rfl, hk, hr, hip, hb⟩ := hrel
        have R4 := Aside0.mk hr
        have I4 := Aside0.mk hip
        have B4 := Aside0.mk hb
        clear hr hip hb R3 B3 B2 B1 T1
        have k0 : (0 : Int) ≤ (k : Int) := Int.natCast_nonneg k
        by_cases hlk : k < n
        · have hIl : I.length = n := I4.out.1
          obtain ⟨inn, hown⟩ := Kd.R_own R4.out
          obtain ⟨gb, cap, ev, _, _⟩ := hown.form (by omega)
          injection ev with ev1 ev2 ev3
          subst ev1 ev3
          clear hown ev2
          have kl : (k : Int) < (n : Int) := by omega
          have hr' := R4.out
          rw [← hIl] at hr'
          obtain ⟨p1, p2⟩ := Kd.R_cell (0 : Int) hr' (k : Int) k0 (by omega)
          rw [Int.toNat_natCast] at p1 p2
          have hP := Kd.R_put hr' (k : Int) ((k : Int))
          rw [Int.toNat_natCast, hIl] at hP
          have R5 := Aside0.mk hP.1
          have B5 : Aside0 (Below w.heap.size w (wr.setCell ⟨gb, k, none⟩ (.int .i64 k))) := ⟨B4.out.trans (bel_of_grown hP.2 B4.out.size (fun k_ e_ => by injection e_ with e_; subst e_; exact ((Kd.R_bound R4.out).1 _ rfl).2.1))⟩
          clear hr' hP hIl
          go_wp2_with fail
          go_loopw [35] (fun i W => ∃ (q : Nat), i = .int .i64 q ∧ q ≤ k ∧ Kd.R (Kd.int .i64) 3 W w.heap.size (fun _ => True) (.slice (some ⟨gb, 0, none⟩) n c3) (I.set k (k : Int)) ∧ (∀ j : Nat, j < q → rd i1 j ≠ rd i1 k) ∧ Below w.heap.size w W) (fun i _ => k - (intOf i).toNat)
          case atStart => exact ⟨0, rfl, Nat.zero_le _, R5.out, fun j hj => by omega, B5.out⟩
          case round =>
            clear R5 B5 p1 p2
            obtain ⟨q, rfl, hq, hr, hjj, hb⟩ := hrel
            have R6 := Aside0.mk hr
            have J6 := Aside0.mk hjj
            have B6 := Aside0.mk hb
            clear hr hjj hb
            have q0 : (0 : Int) ≤ (q : Int) := Int.natCast_nonneg q
            by_cases hlq : q < k
            · have qn : (q : Int) < (n : Int) := by omega
              have hone : oneM l l (k : Int) (q : Int) = (rd i1 k == rd i1 q, 0) := by
                have := HN.out
                rw [oneM_ok HC.out HC.out ⟨by omega, by omega, by omega, by omega⟩, HO.out]
              by_cases ht : rd i1 q = rd i1 k
              · rw [ht, beq_self_eq_true] at hone
                obtain ⟨hqv, hnew⟩ := I4.out.other hlk hlq ht J6.out
                have N6 := Aside0.mk hnew
                have S6 := Aside0.mk (same_calls A c l (k : Int) (q : Int) wr (HL.out.below B6.out) (tab_mono (HT.out.on B6.out) B6.out.size) true 0 hone)
                clear hone hnew
                go_wp2_with fail
                refine S6.out.mono ?_
                rintro e w7 ⟨rfl, hb7⟩
                have hIl : (I.set k (k : Int)).length = n := by rw [List.length_set]; exact I4.out.1
                have R7 := Kd.R_below R6.out hb7
                have hr' := R7
                rw [← hIl] at hr'
                obtain ⟨p1, _⟩ := Kd.R_cell (0 : Int) hr' (q : Int) q0 (by omega)
                obtain ⟨p3, p4⟩ := Kd.R_cell (0 : Int) hr' (k : Int) k0 (by omega)
                have hval : rdOf (0 : Int) (I.set k (k : Int)) (q : Int) = (q : Int) := by
                  unfold rdOf
                  rw [Int.toNat_natCast, List.getD_eq_getElem?_getD, List.getElem?_set_ne (by omega), hqv]
                  rfl
                rw [Int.toNat_natCast] at p1 p3 p4
                rw [hval] at p1
                have hP := Kd.R_put hr' (k : Int) ((q : Int))
                rw [Int.toNat_natCast, hIl] at hP
                have R8 := Aside0.mk hP.1
                have B7 : Aside0 (Below w.heap.size w w7) := ⟨B6.out.trans (hb7.mono B6.out.size)⟩
                have B8 : Aside0 (Below w.heap.size w (w7.setCell ⟨gb, k, none⟩ (.int .i64 q))) := ⟨B7.out.trans (bel_of_grown hP.2 B7.out.size (fun k_ e_ => by injection e_ with e_; subst e_; exact ((Kd.R_bound R7).1 _ rfl).2.1))⟩
                clear hr' hP hIl hval R7 hb7 S6 hqv
                go_wp2_with fail
                go_roundw
                case rel => exact ⟨k + 1, _, by go_num, by omega, R8.out, N6.out, B8.out⟩
                case measure => simp [intOf]; omega
              · have hf : (rd i1 k == rd i1 q) = false := by simp [Ne.symm ht]
                rw [hf] at hone
                have S6 := Aside0.mk (same_calls A c l (k : Int) (q : Int) wr (HL.out.below B6.out) (tab_mono (HT.out.on B6.out) B6.out.size) false 0 hone)
                clear hone hf
                go_wp2_with fail
                refine S6.out.mono ?_
                rintro e w7 ⟨rfl, hb7⟩
                have B7 : Aside0 (Below w.heap.size w w7) := ⟨B6.out.trans (hb7.mono B6.out.size)⟩
                have R7 := Aside0.mk (Kd.R_below R6.out hb7)
                clear hb7 S6
                go_wp2_with fail
                go_roundw
                case rel => exact ⟨q + 1, by go_num, by omega, R7.out, fun j hj => (Nat.lt_or_ge j q).elim (fun h => J6.out j h) (fun h => by have e : j = q := (by omega); rw [e]; exact ht), B7.out⟩
                case measure => simp [intOf]; omega
            · obtain rfl : q = k := by omega
              have N6 := Aside0.mk (I4.out.own hlk J6.out)
              clear hq hlq
              go_wp2_with fail
              go_roundw
              case rel => exact ⟨q + 1, _, by go_num, by omega, R6.out, N6.out, B6.out⟩
              case measure => simp [intOf]; omega
        · obtain rfl : k = n := by omega
          clear hk hlk
          go_wp2_with fail
          go_ret
          refine ⟨_, I, rfl, R4.out, IP.ok HC.out (g1 := g1) HO.out ?_, B4.out⟩
          have := I4.out
          rw [HN.out] at this
          exact this
/-- While the types are laid together. -/
structure OPs (L : Value) (w : World) (v : Value) (t : List S53) (W : World) : Prop where
  box : W.heap[w.heap.size]? = some (.cells #[L, .slice none 0 0, v] 109 (0, 0))
  row : Kd.R (kLent k53 w) 53 W (w.heap.size + 1) (fun _ => True) v t
  bel : Below w.heap.size w W
theorem OPs.below {L : Value} {w W W' : World} {v : Value} {t : List S53} (h : OPs L w v t W) (hb : Below W.heap.size W W') : OPs L w v t W' := ⟨blk_below h.box hb, Kd.R_below h.row hb, h.bel.trans (hb.mono h.bel.size)⟩
theorem OPs.app {L : Value} {w W W' : World} {v v' : Value} {t t' : List S53} (h : OPs L w v t W) (hr : Kd.R (kLent k53 w) 53 W' (w.heap.size + 1) (fun _ => True) v' t') (hg : W.grownBy W' v.ownBlock) : W'.heap[w.heap.size]? = some (.cells #[L, .slice none 0 0, v] 109 (0, 0)) ∧ OPs L w v' t' (W'.setCell ⟨w.heap.size, 2, none⟩ v') := by
  have hne : some w.heap.size ≠ v.ownBlock := fun e => by
    have := (Kd.R_bound h.row).1 _ e.symm
    omega
  have bo := blk_grown h.box hg hne
  have hbel : Below w.heap.size W W' := bel_of_grown hg h.bel.size (fun k e => by have := (Kd.R_bound h.row).1 _ e; omega)
  refine ⟨bo, by have := blk_set bo 2 v'; simpa using this, Kd.R_set hr bo (by intro q hq; rcases List.mem_cons.1 hq with rfl | hq; (· decide); cases hq) 2 v', (h.bel.trans hbel).trans ((Below.refl _ _).setCell (p := ⟨w.heap.size, 2, none⟩) (Nat.le_refl _) v')⟩
/-- What sub.opened hands back. -/
def OpOut (l : List S62) (w : World) (e : Ending) (w' : World) : Prop :=
  Below w.heap.size w w' ∧ ((Clo l ∧ e = .returned (.tuple #[.pointer (some ⟨w.heap.size, 0, none⟩), .bool true]) ∧ Ctx l w.heap.size w') ∨ (¬ Clo l ∧ e = .returned (.tuple #[.pointer none, .bool false])))
set_option maxRecDepth 100000 in
set_option maxHeartbeats 8000000 in
theorem opened_calls (A : Option Addr) (c : Nat) (l : List S62) (w : World) (hl : LA w A c l) (htab : Lib.TabBelow Tryd.prog w.heap.size w "internal/strconv.uint64pow10" .u64 Lib.pow10Tab) :
    Calls Tryd.prog 53 #[.slice A l.length c] w (OpOut l w) := by
  have HL := Aside0.mk hl
  have HT := Aside0.mk htab
  have htc := tcount_le_wL l
  have hw := hl.w
  have hll : l.length ≤ 1048576 := by omega
  clear hl htab
  go_enter Tryd.func53, Tryd.ntmps53
  go_wp2_with fail
  have ba : Below w.heap.size w (w.alloc (.cells #[.slice A l.length c, .slice none 0 0, .slice none 0 0] 109)) := (Below.refl _ _).alloc (Nat.le_refl _) _
  refine (closed_calls A c l _ (HL.out.below ba).C HL.out.cap (by omega) (by omega) (sok_all (by omega))).mono ?_
  rintro e w1 ⟨⟨n1, e1, rfl, h1⟩, hb1⟩
  have T1 : Aside0 (OPs (.slice A l.length c) w (.slice none 0 0) [] w1) := ⟨⟨blk_below (blk_new w _) hb1, Kd.R_nil _ _ _ _ _, ba.trans (hb1.mono ba.size)⟩⟩
  clear hb1 ba
  rcases h1 with ⟨rfl, rfl, hc⟩ | ⟨rfl, hc⟩
  · have HC := Aside0.mk hc
    clear hc
    go_wp2_with fail
    go_loopw [21] (fun i W => ∃ (j : Nat) (v : Value), i = .int .i64 j ∧ j ≤ l.length ∧ OPs (.slice A l.length c) w v (flat (l.take j)) W) (fun i _ => l.length - (intOf i).toNat)
    case atStart => exact ⟨0, _, rfl, Nat.zero_le _, T1.out⟩
    case round =>
      clear T1
      obtain ⟨j, v, rfl, hj, hT⟩ := hrel
      have L0 := Aside0.mk hT
      clear hT
      have j0 : (0 : Int) ≤ (j : Int) := Int.natCast_nonneg j
      by_cases hlt : j < l.length
      · obtain ⟨lo, hlo⟩ : ∃ lo : List S53, lo = flat (l.take j) := ⟨_, rfl⟩
        rw [← hlo] at L0
        have hlol : lo.length ≤ 1048576 := by rw [hlo, flat_length]; have := tcount_mono l j l.length hj; rw [List.take_length] at this; omega
        have HLO := Aside0.mk hlo
        clear hlo
        obtain ⟨Av, cv, hvo⟩ := Kd.R_slice L0.out.row
        subst hvo
        obtain ⟨ad, A0, c0, ea, d0, d1, hrc, hrC⟩ := at_T62 HL.out.C (j : Int) j0 (by omega)
        subst ea
        have HRJ := Aside0.mk (rd_RT_at l j hlt)
        simp only [Int.toNat_natCast] at d0 d1
        obtain ⟨r, hre⟩ : ∃ r, r = rd_T62 l (j : Int) := ⟨_, rfl⟩
        rw [← hre] at d0 d1 hrc hrC HRJ
        clear hre
        have hrl : r.f0.length ≤ 1048576 := by have := tcount_take_le l j r HRJ.out; omega
        replace d0 := (L0.out.bel.cell (World.block_lt_of_cell? w _ d0)).trans d0
        replace d1 := (L0.out.bel.cell (World.block_lt_of_cell? w _ d1)).trans d1
        have HRC := Aside0.mk hrC
        have jl : (j : Int) < (l.length : Int) := by omega
        have T0' := L0.out.below ((Below.refl wr.heap.size wr).alloc (Nat.le_refl _) (.cells #[.slice A0 r.f0.length c0, .bool r.f1] 62))
        have T0 : OPs _ w (.slice Av lo.length cv) lo (wr.alloc (.cells #[.slice A0 r.f0.length c0, .bool r.f1] 62)).drew := T0'.below ⟨rfl, rfl, rfl, Nat.le_refl _, fun _ _ => rfl⟩
        clear T0'
        have B0 : (wr.alloc (.cells #[.slice A0 r.f0.length c0, .bool r.f1] 62)).drew.heap[wr.heap.size]? = some (.cells #[.slice A0 r.f0.length c0, .bool r.f1] 62 (0, 0)) := blk_new wr _
        have HSV : Aside0 (some wr.heap.size ≠ (Value.slice Av lo.length cv).ownBlock) := ⟨fun e => by have := Kd.R_lt L0.out.row _ e.symm; omega⟩
        clear hrc hrC
        go_wp2_with fail
        refine start_ (n := 11) (S := fun w' => w'.cell? ⟨w.heap.size, 2, none⟩ = some (.slice Av lo.length cv) ∧ w'.cell? ⟨wr.heap.size, 0, none⟩ = some (.slice A0 r.f0.length c0)) (ds := [10]) #[false, false, false, false, false, false, false, false, false, false, false] (by kernel_rfl) rfl rfl ⟨(blk_cell T0.box 2).trans rfl, (blk_cell B0 0).trans rfl⟩ (fun hHeld => ?_)
        have HW5 : Aside0 (Below w.heap.size wr (wr.alloc (.cells #[.slice A0 r.f0.length c0, .bool r.f1] 62)).drew) := ⟨((Below.refl _ _).alloc L0.out.bel.size _).drew⟩
        generalize World.drew _ = w5 at T0 B0 HW5 hHeld ⊢
        refine pure_ (i := 0) (N := some 25) (v := ?_) (a' := ?_) #[true, false, false, false, false, false, false, false, false, false, false] rfl rfl (by kernel_rfl) (fun _ _ _ h => h) (Or.inl ⟨by rfl, ?_⟩) ?_ ?_
        rotate_left
        · intro w'
          go_simp
          with_reducible rfl
        rotate_left
        · simp only [Act.put, List.setIfInBounds_toArray, List.set_cons_zero, List.set_cons_succ, i64_w, i32_w]
          rfl
        refine pure_ (i := 1) (N := some 26) (v := ?_) (a' := ?_) #[true, true, false, false, false, false, false, false, false, false, false] rfl rfl (by kernel_rfl) (fun _ _ _ h => h) (Or.inl ⟨by rfl, ?_⟩) ?_ ?_
        rotate_left
        · intro w'
          go_simp
          with_reducible rfl
        rotate_left
        · simp only [Act.put, List.setIfInBounds_toArray, List.set_cons_zero, List.set_cons_succ, i64_w, i32_w]
          rfl
        refine pure_ (i := 2) (N := some 27) (v := ?_) (a' := ?_) #[true, true, true, false, false, false, false, false, false, false, false] rfl rfl (by kernel_rfl) (fun _ _ _ h => h) (Or.inl ⟨by rfl, ?_⟩) ?_ ?_
        rotate_left
        · intro w'
          go_simp
          with_reducible rfl
        rotate_left
        · simp only [Act.put, List.setIfInBounds_toArray, List.set_cons_zero, List.set_cons_succ, i64_w, i32_w]
          rfl
        refine pure_ (i := 3) (N := some 28) (v := ?_) (a' := ?_) #[true, true, true, true, false, false, false, false, false, false, false] rfl rfl (by kernel_rfl) (fun _ _ _ h => h) (Or.inl ⟨by rfl, ?_⟩) ?_ ?_
        rotate_left
        · intro w'
          go_simp
          with_reducible rfl
        rotate_left
        · simp only [Act.put, List.setIfInBounds_toArray, List.set_cons_zero, List.set_cons_succ, i64_w, i32_w]
          rfl
        refine pure_ (i := 5) (N := some 30) (v := ?_) (a' := ?_) #[true, true, true, true, false, true, false, false, false, false, false] rfl rfl (by kernel_rfl) (fun _ _ _ h => h) (Or.inl ⟨by rfl, ?_⟩) ?_ ?_
        rotate_left
        · intro w'
          go_simp
          with_reducible rfl
        rotate_left
        · simp only [Act.put, List.setIfInBounds_toArray, List.set_cons_zero, List.set_cons_succ, i64_w, i32_w]
          rfl
        refine take_ (i := 4) (N := some 29) (v := ?_) (a' := ?_) #[true, true, true, true, true, true, false, false, false, false, false] rfl rfl (by kernel_rfl) (fun _ _ _ h => h) (Or.inl ⟨by rfl, ?_⟩) hHeld ?_ ?_
        rotate_left
        · rintro w' ⟨s0, s1⟩
          go_simp
          with_reducible rfl
        rotate_left
        · simp only [Act.put, List.setIfInBounds_toArray, List.set_cons_zero, List.set_cons_succ, i64_w, i32_w]
          rfl
        refine take_ (i := 6) (N := some 31) (v := ?_) (a' := ?_) #[true, true, true, true, true, true, true, false, false, false, false] rfl rfl (by kernel_rfl) (fun _ _ _ h => h) (Or.inl ⟨by rfl, ?_⟩) hHeld ?_ ?_
        rotate_left
        · rintro w' ⟨s0, s1⟩
          go_simp
          with_reducible rfl
        rotate_left
        · simp only [Act.put, List.setIfInBounds_toArray, List.set_cons_zero, List.set_cons_succ, i64_w, i32_w]
          rfl
        refine one_ (i := 7) (N := some 32) #[true, true, true, true, true, true, true, true, false, false, false] rfl rfl (by kernel_rfl) (by decide) (fun K hK => ?_)
        have hsz_ : w.heap.size + 1 ≤ w5.heap.size := blk_lt T0.box
        refine Kd.R_append_rows_step (kLent k53 w) (Rr := k53.K w) (w0 := w5) (w.heap.size + 1) (by rfl) (.tmp 29) (.tmp 31) 60 53 (.agg #[.bool false, .slice none 0 0, .int .i64 0, .slice none 0 0, .slice none 0 0, .slice none 0 0]) 112 rfl Tryd.underlying60 infoST rfl (show 0 < 6 by decide) (by omega) (.slice Av lo.length cv) lo r.f0 A0 r.f0.length c0 (fun _ => True) (fun k_ => some k_ ≠ (Value.slice Av lo.length cv).ownBlock) rfl rfl T0.row (ReadsRow.imp_ HRC.out ((L0.out.bel.mono (Nat.le_refl _)).trans HW5.out) (fun _ _ h_ => h_)) (fun _ _ h_ => h_) (fun k_ hk_ => ⟨trivial, hk_⟩) (fun _ _ => trivial) (Below.refl _ _) hsz_ (by omega) ?_
        intro v5_ w7 ho _ hg hat
        obtain ⟨A5', c5', e5'⟩ := Kd.R_slice ho
        subst e5'
        obtain ⟨bo, T3⟩ := T0.app ho hg
        have B3 := blk_grown B0 hg HSV.out
        have L3 := Aside0.mk T3
        refine hK.out _ _ ⟨(blk_cell bo 2).trans rfl, (blk_cell B3 0).trans rfl⟩ (fun hHeld => ?_)
        clear hK K
        refine norm_ (a' := ?_) ?_ ?_
        rotate_left
        · show Act.put _ (some 32) _ = _
          simp only [Act.put, List.setIfInBounds_toArray, List.set_cons_zero, List.set_cons_succ, i64_w, i32_w]
          rfl
        refine pure_ (i := 8) (N := some 33) (v := ?_) (a' := ?_) #[true, true, true, true, true, true, true, true, true, false, false] rfl rfl (by kernel_rfl) (fun _ _ _ h => h) (Or.inl ⟨by rfl, ?_⟩) ?_ ?_
        rotate_left
        · intro w'
          go_simp
          with_reducible rfl
        rotate_left
        · simp only [Act.put, List.setIfInBounds_toArray, List.set_cons_zero, List.set_cons_succ, i64_w, i32_w]
          rfl
        refine pure_ (i := 9) (N := some 34) (v := ?_) (a' := ?_) #[true, true, true, true, true, true, true, true, true, true, false] rfl rfl (by kernel_rfl) (fun _ _ _ h => h) (Or.inl ⟨by rfl, ?_⟩) ?_ ?_
        rotate_left
        · intro w'
          go_simp
          with_reducible rfl
        rotate_left
        · simp only [Act.put, List.setIfInBounds_toArray, List.set_cons_zero, List.set_cons_succ, i64_w, i32_w]
          rfl
        refine last_ (i := 10) (N := none) #[true, true, true, true, true, true, true, true, true, true, true] rfl rfl (by kernel_rfl) (by decide) (fun K hK => ?_)
        have hs_ : w7.cell? ⟨w.heap.size, 2, none⟩ = some (.slice Av lo.length cv) := (blk_cell bo 2).trans rfl
        have hfs_ : w7.frozen? ⟨w.heap.size, 2, none⟩ = false := blk_frozen bo 2
        refine skip_ (w1 := ?_) (by rfl) rfl ?_ ?_
        rotate_left
        · go_simp
          rfl
        refine hK.out _ _ ?_
        clear hK K
        refine done_ (by kernel_rfl) ?_
        
        go_wp2_with fail
        go_roundw
        case rel => exact ⟨j + 1, _, by go_num, by omega, by have e_ : flat (l.take (j + 1)) = lo ++ r.f0 := (by rw [flat_succ HRJ.out, HLO.out]); rw [e_, ← List.length_append]; exact L3.out⟩
        case measure => simp [intOf]; omega
      · obtain rfl : j = l.length := by omega
        rw [List.take_length] at L0
        clear hj hlt
        obtain ⟨Av, cv, hvo⟩ := Kd.R_slice L0.out.row
        subst hvo
        have x0 : wr.cell? ⟨w.heap.size, 2, none⟩ = some (.slice Av (flat l).length cv) := (blk_cell L0.out.box 2).trans rfl
        have HFL : Aside0 ((flat l).length = tcount l) := ⟨flat_length l⟩
        by_cases hz : 0 < (flat l).length
        · go_wp2_with fail
          refine (ids_calls A c l _ wr (HL.out.below L0.out.bel) HC.out HFL.out (tab_mono (HT.out.on L0.out.bel) L0.out.bel.size)).mono ?_
          rintro e w5 ⟨v5, I, rfl, hr, hi, hb⟩
          have hz0 := blk_lt L0.out.box
          have bx := blk_below L0.out.box hb
          have y1 : w5.cell? ⟨w.heap.size, 1, none⟩ = some (.slice none 0 0) := (blk_cell bx 1).trans rfl
          have z1 : w5.frozen? ⟨w.heap.size, 1, none⟩ = false := blk_frozen bx 1
          obtain ⟨Ai, ci, ev⟩ := Kd.R_slice hr
          subst ev
          have bx2 := blk_set bx 1 (.slice Ai I.length ci)
          have hr2 := Kd.R_set hr bx (by decide) 1 (.slice Ai I.length ci)
          have rw2 := Kd.R_set (Kd.R_below L0.out.row hb) bx (by intro q hq; rcases List.mem_cons.1 hq with rfl | hq; (· decide); cases hq) 1 (.slice Ai I.length ci)
          have hbb : Below w.heap.size w (w5.setCell ⟨w.heap.size, 1, none⟩ (.slice Ai I.length ci)) := (L0.out.bel.trans (hb.mono L0.out.bel.size)).trans ((Below.refl _ _).setCell (p := ⟨w.heap.size, 1, none⟩) (Nat.le_refl _) _)
          have X : Aside0 (Ctx l w.heap.size (w5.setCell ⟨w.heap.size, 1, none⟩ (.slice Ai I.length ci))) := ⟨⟨_, Ai, ci, Av, cv, I, by simpa using bx2, (Kd.R_reads' hr2).2.1, (Kd.R_reads' rw2).2.1, (Kd.R_reads' hr2).2.2, kLent_C (Kd.R_reads' rw2).2.2 hbb, hi⟩⟩
          have HB := Aside0.mk hbb
          clear hr hi hb hz0 bx bx2 hr2 rw2 hbb
          go_wp2_with fail
          go_ret2
          exact ⟨HB.out, .inl ⟨HC.out, rfl, X.out⟩⟩
        · go_wp2_with fail
          go_ret2
          have hn : (flat l).length = 0 := by omega
          exact ⟨L0.out.bel, .inl ⟨HC.out, rfl, ⟨⟨_, none, 0, Av, cv, [], L0.out.box, Nat.le_refl _, (Kd.R_reads' L0.out.row).2.1, Kd.C_nil _ _, kLent_C (Kd.R_reads' L0.out.row).2.2 L0.out.bel, ⟨hn.symm, fun x y hx _ => by omega⟩⟩⟩⟩⟩
  · go_wp2_with fail
    go_ret2
    exact ⟨T1.out.bel, .inr ⟨hc, rfl⟩⟩
end Go.Proofs.YtfgglniigeagdaaDoor.Cn
