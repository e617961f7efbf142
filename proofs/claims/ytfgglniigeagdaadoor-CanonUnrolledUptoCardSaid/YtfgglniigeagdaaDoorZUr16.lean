/- Parts of the proof of canonUnrolled_holds (16 of 17): what it says and shows stands at its declarations. -/
import Derived.Test.YtfgglniigeagdaaDoorZUr15
namespace Go.Proofs.YtfgglniigeagdaaDoor.Cn
set_option linter.unusedSimpArgs false
set_option linter.unusedVariables false
open Go.RowKit Go.Maps Go.Proofs.YtfgglniigeagdaaDoorW.PrintWords Go.Proofs.YtfgglniigeagdaaDoorW.PrintLast Go.Proofs.YtfgglniigeagdaaDoorW.PrintMore Go.Proofs.YtfgglniigeagdaaDoor.QD
/-- A group's types, behind n others. -/
def unT (n : Nat) (g : S62) : List S53 := (g.f0.map (tsp rlH)).map (tsp (urH (n : Int)))
def unG (n : Nat) (g : S62) : S62 := ⟨unT n g, g.f1⟩
theorem unT_length (n : Nat) (g : S62) : (unT n g).length = g.f0.length := by simp [unT]
theorem wS_tsp (r : Int → Int) (s : S53) : wS (tsp r s) = wS s := by simp [wS, tsp]
theorem wG_tsp (r : Int → Int) (l : List S53) : wG (l.map (tsp r)) = wG l := by
  unfold wG
  rw [List.map_map]
  congr 1
  apply List.map_congr_left
  intro s _
  exact wS_tsp r s
theorem wG_un (n : Nat) (g : S62) : wG (unT n g) = wG g.f0 := by unfold unT; rw [wG_tsp, wG_tsp]
theorem TQ.imp {P Q : Int → Prop} {s : S53} (h : TQ P s) (hi : ∀ x, P x → Q x) : TQ Q s :=
  ⟨fun x hx => hi _ (h.q1 x hx), fun v hv e => hi _ (h.q2 v hv e), fun v hv e => hi _ (h.q3 v hv e), fun v hv e => hi _ (h.q4 v hv e)⟩
theorem TQ.tsp {P Q : Int → Prop} {r : Int → Int} {s : S53} (h : TQ P s) (hi : ∀ x, P x → Q (r x)) : TQ Q (tsp r s) := by
  have hv : ∀ v : S74, (v.f0 = 5 → P v.f2) → (tvp r v).f0 = 5 → Q (tvp r v).f2 := fun v h5 e => by
    unfold tvp at e ⊢
    by_cases h0 : v.f0 = 5
    · rw [if_pos h0]; exact hi _ (h5 h0)
    · rw [if_neg h0] at e; exact absurd e h0
  refine ⟨fun x hx => ?_, fun v hv' e => ?_, fun v hv' e => ?_, fun v hv' e => ?_⟩
  · obtain ⟨y, hy, rfl⟩ := List.mem_map.1 hx; exact hi _ (h.q1 y hy)
  · obtain ⟨y, hy, rfl⟩ := List.mem_map.1 hv'; exact hv y (h.q2 y hy) e
  · obtain ⟨y, hy, rfl⟩ := List.mem_map.1 hv'; exact hv y (h.q3 y hy) e
  · obtain ⟨y, hy, rfl⟩ := List.mem_map.1 hv'; exact hv y.f0 (h.q4 y hy) e
theorem mroll_tsp {Q : Int → Prop} {r : Int → Int} {a b : List Int} {s : S53} (h : TQ Q s) (hi : ∀ x, Q x → rollF b (r x) = rollF a x) : mroll b (tsp r s) = mroll a s := by
  have hv : ∀ v : S74, (v.f0 = 5 → Q v.f2) → mvp (rollF b) (tvp r v) = mvp (rollF a) v := fun v h5 => by
    unfold tvp mvp
    by_cases h0 : v.f0 = 5
    · simp only [h0, if_true]; rw [hi _ (h5 h0)]
    · simp only [h0, if_false]
  simp only [mroll_eq, tsp, List.map_map]
  have k1 : s.f1.map (rollF b ∘ r) = s.f1.map (rollF a) := List.map_congr_left fun x hx => hi x (h.q1 x hx)
  have k2 : s.f2.f1.map (mvp (rollF b) ∘ tvp r) = s.f2.f1.map (mvp (rollF a)) := List.map_congr_left fun v hx => hv v (h.q2 v hx)
  have k3 : s.f2.f2.map (mvp (rollF b) ∘ tvp r) = s.f2.f2.map (mvp (rollF a)) := List.map_congr_left fun v hx => hv v (h.q3 v hx)
  have k4 : s.f2.f3.map (mfp (rollF b) ∘ tfp r) = s.f2.f3.map (mfp (rollF a)) := List.map_congr_left fun v hx => by
    show mfp (rollF b) (tfp r v) = _
    unfold mfp tfp
    rw [hv v.f0 (h.q4 v hx)]
  rw [k1, k2, k3, k4]
theorem clo_one {g : S62} (h : Clo [g]) {s : S53} (hs : s ∈ g.f0) : (∀ x ∈ s.f1, 0 ≤ x) ∧ TQ (fun x => -12 ≤ x ∧ x < (g.f0.length : Int)) s := by
  have := (typeOk_iff _ _).1 (h 0 g rfl s hs)
  have e : tcount (List.take (0 + 1) [g]) = g.f0.length := by simp [tcount]
  rw [e] at this
  exact this
theorem mem_un {n : Nat} {g : S62} {s : S53} (h : s ∈ unT n g) : ∃ y ∈ g.f0, s = tsp (urH n) (tsp rlH y) := by
  unfold unT at h
  rw [List.map_map] at h
  obtain ⟨y, hy, rfl⟩ := List.mem_map.1 h
  exact ⟨y, hy, rfl⟩
/-- Where a group is closed: what Unroll gives of what Roll gives. -/
theorem un_q {n N : Nat} {x : Int} (h : -12 ≤ x ∧ x < (N : Int)) : (rlH x = x ∧ urH n x = x ∧ x < 0 ∨ rlH x = -100 - x ∧ urH n (-100 - x) = (n : Int) + x ∧ 0 ≤ x) := by
  unfold rlH urH
  by_cases h0 : x < 0
  · left; rw [if_pos h0, if_pos (by omega)]; exact ⟨rfl, rfl, h0⟩
  · right; rw [if_neg h0, if_neg (by omega)]; exact ⟨rfl, by omega, by omega⟩
theorem urrl {n N : Nat} {x : Int} (h : -12 ≤ x ∧ x < (N : Int)) : -12 ≤ urH n (rlH x) ∧ urH n (rlH x) < (n : Int) + N ∧ (0 ≤ x → 0 ≤ urH n (rlH x)) := by
  rcases un_q (n := n) h with ⟨e1, e2, h0⟩ | ⟨e1, e2, h0⟩
  · rw [e1, e2]; exact ⟨h.1, by omega, by omega⟩
  · rw [e1, e2]; exact ⟨by omega, by omega, by omega⟩
theorem clo_un {g more : S62} (hg : Clo [g]) (hm : Clo [more]) : Clo [more, unG more.f0.length g] := by
  intro j r hr s hs
  match j with
  | 0 =>
    obtain rfl : more = r := by simpa using hr
    exact hm 0 more rfl s hs
  | 1 =>
    obtain rfl : unG more.f0.length g = r := by simpa using hr
    obtain ⟨y, hy, rfl⟩ := mem_un hs
    obtain ⟨h1, h2⟩ := clo_one hg hy
    have e : tcount (List.take (1 + 1) [more, unG more.f0.length g]) = more.f0.length + g.f0.length := by simp [tcount, unG, unT_length]
    rw [e, typeOk_iff]
    refine ⟨fun x hx => ?_, ?_⟩
    · simp only [tsp, List.mem_map] at hx
      obtain ⟨_, ⟨z, hz, rfl⟩, rfl⟩ := hx
      exact (urrl (h2.q1 z hz)).2.2 (h1 z hz)
    · have h3 : TQ (fun x => ∃ z, x = rlH z ∧ -12 ≤ z ∧ z < (g.f0.length : Int)) (tsp rlH y) := h2.tsp (fun x hx => ⟨x, rfl, hx⟩)
      refine h3.tsp ?_
      rintro x ⟨z, rfl, hz⟩
      have := urrl (n := more.f0.length) hz
      exact ⟨this.1, by push_cast; omega⟩
  | j + 2 => simp at hr
theorem own_un {g : S62} (hg : Clo [g]) (ids : List Int) : ownG ids (unG ids.length g) = ownG [] g := by
  unfold ownG unG unT
  dsimp only
  rw [List.map_map, List.map_map]
  apply List.map_congr_left
  intro y hy
  obtain ⟨_, h2⟩ := clo_one hg hy
  show mroll ids (tsp (urH ids.length) (tsp rlH y)) = mroll [] y
  have h3 : TQ (fun x => ∃ z, x = rlH z ∧ -12 ≤ z ∧ z < (g.f0.length : Int)) (tsp rlH y) := h2.tsp (fun x hx => ⟨x, rfl, hx⟩)
  have e1 : mroll [] y = mroll [] y := rfl
  have hh : mroll ids (tsp (urH ids.length) (tsp rlH y)) = mroll ids (tsp (fun x => urH ids.length (rlH x)) y) := by
    congr 1
    simp only [tsp, List.map_map]
    have ev : tvp (urH ids.length) ∘ tvp rlH = tvp (fun x => urH ids.length (rlH x)) := by
      funext v
      simp only [Function.comp, tvp]
      by_cases h0 : v.f0 = 5
      · simp only [h0, if_true]
      · simp only [h0, if_false]
    have ef : tfp (urH ids.length) ∘ tfp rlH = tfp (fun x => urH ids.length (rlH x)) := by
      funext v
      simp only [Function.comp, tfp]
      rw [← ev]
      rfl
    rw [ev, ef]
    rfl
  rw [hh]
  refine mroll_tsp h2 ?_
  rintro x ⟨h4, h5⟩
  rcases un_q (n := ids.length) (N := g.f0.length) ⟨h4, h5⟩ with ⟨e1, e2, h0⟩ | ⟨e1, e2, h0⟩
  · rw [e1, e2]; unfold rollF; rw [if_pos h0, if_pos h0]
  · rw [e1, e2]; unfold rollF
    rw [if_neg (by omega), if_neg (by omega), if_neg (by omega), if_neg (by simp; omega)]
    simp
    omega
theorem ids_one {m : Int} {g : S62} {gs : List (List S53)} {ids : List Int} (h : addTo m ([], []) [g] = some (gs, ids)) : gs = [ownG [] g] ∧ ids.length = g.f0.length ∧ ∀ i : Nat, i < g.f0.length → ids[i]? = some (i : Int) := by
  simp only [addTo, addStep, findK, List.findIdx?_nil] at h
  split at h
  · simp at h
  · simp only [Option.bind_some, Option.some.injEq, Prod.mk.injEq, List.nil_append] at h
    obtain ⟨rfl, rfl⟩ := h
    refine ⟨rfl, by rw [idsFrom_length, ownG_length], fun i hi => ?_⟩
    rw [idsFrom_get _ _ _ (by rw [ownG_length]; exact hi)]
    simp [manyOf]
theorem rd_at {l : List Int} {i : Nat} {v : Int} (h : l[i]? = some v) : rd l (i : Int) = v := rd_eq l i v (by simpa using h)
/-- Two of a group's own types are never one. -/
theorem oneM_self {g : S62} (hg : Clo [g]) (hn : g.f0.length ≤ 1048576) {i j : Nat} (hi : i < g.f0.length) (hj : j < g.f0.length) : oneM [g] [g] (i : Int) (j : Int) = (decide (i = j), 0) := by
  have e : tcount [g] = g.f0.length := by simp [tcount]
  rw [oneM_ok hg hg ⟨by omega, by omega, by omega, by omega⟩]
  obtain ⟨g1, i1, h1, h2⟩ := oneIds_self (l := [g]) (by omega)
  obtain ⟨_, _, h3⟩ := ids_one h1
  rw [h2]
  dsimp only
  rw [rd_at (h3 i hi), rd_at (h3 j hj)]
  by_cases h : i = j
  · subst h; simp
  · have : ¬ ((i : Int) = (j : Int)) := by omega
    simp [h, this]
/-- A group's type, and the same type unrolled behind others, are one. -/
theorem oneM_un {g more : S62} (hg : Clo [g]) (hm : Clo [more]) (hn : g.f0.length + more.f0.length ≤ 1048576) {i : Nat} (hi : i < g.f0.length) : oneM [g] [more, unG more.f0.length g] (i : Int) ((more.f0.length : Int) + (i : Int)) = (true, 0) := by
  have e1 : tcount [g] = g.f0.length := by simp [tcount]
  have e2 : tcount [more, unG more.f0.length g] = more.f0.length + g.f0.length := by simp [tcount, unG, unT_length]
  rw [oneM_ok hg (clo_un hg hm) ⟨by omega, by omega, by omega, by omega⟩]
  obtain ⟨g1, i1, h1, hm1, _, _⟩ := addTo_room 9223372036854775807 [g] [] [] (by simp [manyOf]; omega)
  obtain ⟨rfl, _, h3⟩ := ids_one h1
  obtain ⟨g2, i2, h4, _, hl2, _⟩ := addTo_room 9223372036854775807 [more, unG more.f0.length g] [ownG [] g] [] (by rw [e2]; simp [manyOf, ownG_length]; omega)
  have ho : oneIds [g] [more, unG more.f0.length g] = (i1, i2) := by unfold oneIds; rw [h1]; dsimp only; rw [h4]
  rw [ho]
  dsimp only
  have hd : Dist [ownG [] g] := by
    have := addTo_char _ _ _ _ _ _ h1 Dist.nil
    exact this.1
  obtain ⟨hD, ⟨t, ht⟩, _, hch⟩ := addTo_char _ _ _ _ _ _ h4 hd
  obtain ⟨idx, hx, hy⟩ := hch 1 (unG more.f0.length g) rfl
  have e3 : tcount (List.take 1 [more, unG more.f0.length g]) = more.f0.length := by simp [tcount]
  rw [e3] at hx hy
  simp only [List.length_nil, Nat.zero_add] at hx hy
  have hlen : (i2.take more.f0.length).length = more.f0.length := by rw [List.length_take, hl2, e2]; simp
  have ho2 := own_un hg (i2.take more.f0.length)
  rw [hlen] at ho2
  rw [ho2] at hx
  have h0 : g2[0]? = some (ownG [] g) := by rw [ht]; rfl
  have hi0 : idx = 0 := hD idx 0 _ hx h0
  subst hi0
  have h5 := hy i (by simp [unG, unT_length]; exact hi)
  have h6 : firstOf g2 0 = 0 := by simp [firstOf, manyOf]
  rw [h6, Int.zero_add] at h5
  rw [rd_at (h3 i hi)]
  have h7 : rd i2 ((more.f0.length : Int) + (i : Int)) = (i : Int) := by
    have := rd_at h5
    rw [Int.natCast_add] at this
    exact this
  rw [h7]
  simp
/-- Numbers, bounds and bulk of what was unrolled. -/
theorem gin_un {n : Nat} {g : S62} (hn : n + g.f0.length ≤ 1048576) (hg : Clo [g]) (h : GIn g) : GIn (unG n g) := by
  intro s hs
  obtain ⟨y, hy, rfl⟩ := mem_un hs
  have hY := h y hy
  obtain ⟨_, hq⟩ := clo_one hg hy
  have hr : ∀ x : Int, -12 ≤ x ∧ x < (g.f0.length : Int) → N64 (urH n (rlH x)) := fun x hx => by
    have := urrl (n := n) hx
    unfold N64
    omega
  have hv : ∀ v : S74, (N64 v.f0 ∧ N64 v.f2) → (v.f0 = 5 → -12 ≤ v.f2 ∧ v.f2 < (g.f0.length : Int)) → N64 (tvp (urH n) (tvp rlH v)).f0 ∧ N64 (tvp (urH n) (tvp rlH v)).f2 := fun v h0 h5 => by
    unfold tvp
    by_cases e : v.f0 = 5
    · simp only [e, if_true]; exact ⟨by have := h0.1; rw [e] at this; exact this, hr _ (h5 e)⟩
    · simp only [e, if_false]; exact h0
  refine ⟨fun x hx => ?_, ⟨hY.c.k, fun v hx => ?_, fun v hx => ?_, fun v hx => ?_⟩⟩
  · simp only [tsp, List.mem_map] at hx
    obtain ⟨_, ⟨z, hz, rfl⟩, rfl⟩ := hx
    exact hr z (hq.q1 z hz)
  · simp only [tsp, List.mem_map] at hx
    obtain ⟨_, ⟨z, hz, rfl⟩, rfl⟩ := hx
    exact hv z (hY.c.p z hz) (hq.q2 z hz)
  · simp only [tsp, List.mem_map] at hx
    obtain ⟨_, ⟨z, hz, rfl⟩, rfl⟩ := hx
    exact hv z (hY.c.r z hz) (hq.q3 z hz)
  · simp only [tsp, List.mem_map] at hx
    obtain ⟨_, ⟨z, hz, rfl⟩, rfl⟩ := hx
    exact hv z.f0 (hY.c.f z hz) (hq.q4 z hz)
/-- What Roll and Unroll ask. -/
theorem sok_rl {N : Int} {s : S53} (hw : wS s ≤ 1048576) (hb : -1000000000000 ≤ N ∧ N ≤ 1000000000000) (h : TQ (fun x => -12 ≤ x ∧ x < N) s) : SOk RollQ s := by
  have h0 := sok_of_w hw
  have hq := h.imp (Q := RollQ) (fun x hx => by unfold RollQ; omega)
  exact ⟨hq.q1, hq.q2, hq.q3, hq.q4, h0.l1, h0.l2, h0.l3, h0.l4⟩
theorem roll_in {g : S62} (hg : Clo [g]) (hw : wG g.f0 ≤ 1048576) (hn : g.f0.length ≤ 1048576) : (∀ s ∈ g.f0, SOk RollQ s) ∧ ∀ s ∈ g.f0, tsub (rlF g.f0.length) true s = (true, tsp rlH s) := by
  refine ⟨fun s hs => ?_, fun s hs => ?_⟩
  · have := wS_le_wG hs
    exact sok_rl (N := g.f0.length) (by omega) (by omega) (clo_one hg hs).2
  · exact tsub_true _ _ (fun h hq => rlF_true _ h hq) s (clo_one hg hs).2
theorem unroll_in {g : S62} (first : Int) (hg : Clo [g]) (hw : wG g.f0 ≤ 1048576) (hn : g.f0.length ≤ 1048576) : (∀ s ∈ g.f0.map (tsp rlH), SOk RollQ s) ∧ ∀ s ∈ g.f0.map (tsp rlH), tsub (urF (g.f0.map (tsp rlH)).length first) true s = (true, tsp (urH first) s) := by
  have hT : ∀ s ∈ g.f0.map (tsp rlH), TQ (fun x => ∃ z, x = rlH z ∧ -12 ≤ z ∧ z < (g.f0.length : Int)) s := fun s hs => by
    obtain ⟨y, hy, rfl⟩ := List.mem_map.1 hs
    exact (clo_one hg hy).2.tsp (fun x hx => ⟨x, rfl, hx⟩)
  refine ⟨fun s hs => ?_, fun s hs => ?_⟩
  · have h0 : SOk (fun _ => True) s := sok_of_w (by
      obtain ⟨y, hy, rfl⟩ := List.mem_map.1 hs
      have := wS_le_wG hy
      rw [wS_tsp]
      omega)
    have hq := (hT s hs).imp (Q := RollQ) (fun x hx => by
      obtain ⟨z, rfl, hz⟩ := hx
      unfold RollQ rlH
      split <;> omega)
    exact ⟨hq.q1, hq.q2, hq.q3, hq.q4, h0.l1, h0.l2, h0.l3, h0.l4⟩
  · refine tsub_true _ _ (fun h hq => urF_true _ _ h ?_) s (hT s hs)
    obtain ⟨z, rfl, hz⟩ := hq
    rw [List.length_map]
    unfold rlH
    split <;> omega
end Go.Proofs.YtfgglniigeagdaaDoor.Cn
namespace Go.Proofs.YtfgglniigeagdaaDoor.Cn
set_option linter.unusedSimpArgs false
set_option linter.unusedVariables false
open Go.RowKit Go.Maps Go.Proofs.YtfgglniigeagdaaDoorW.PrintWords Go.Proofs.YtfgglniigeagdaaDoorW.PrintLast Go.Proofs.YtfgglniigeagdaaDoorW.PrintMore Go.Proofs.YtfgglniigeagdaaDoor.QD
theorem k_over {w w1 : World} {x : S62} {A : Option Addr} {c : Nat} (hc : x.f0.length ≤ c) (hC : Kd.C k53 w A x.f0.length x.f0) (hb : Below w.heap.size w w1) : k62.K w1 x [.slice A x.f0.length c, .bool x.f1] := k62_mk w1 x hc (Kd.C_below hC hb)
theorem own_bel {W W' : World} {B n s : Nat} {e : TypeId} {v : Value} {cs : List Value} (h : W.ownsRow B e s v n cs) (hb : Below W.heap.size W W') : W'.ownsRow B e s v n cs := own_move h (fun k hk => hb.block k (own_lt h k hk))
theorem la_of_own {B : Nat} {W : World} {v : Value} {gs : List S62} {cs : List Value} {n : Nat} (ho : W.ownsRow B 62 2 v n cs) (hn : gs.length = n) (hr : Reps (k62.K W) 2 gs cs) (hi : LIn gs) (hw : wL gs + gs.length ≤ 1048576) : ∃ A c, v = .slice A gs.length c ∧ LA W A c gs := by
  subst hn
  obtain ⟨A, c, e, h1, h2⟩ := OwnRow.reads (R := k62.K W) ⟨cs, ho, hr⟩
  exact ⟨A, c, e, h2, h1, hi, hw⟩
theorem reps1 {R : S62 → List Value → Prop} {x : S62} {a b : Value} (h : R x [a, b]) : Reps R 2 [x] [a, b] := by
  have := (Reps.none R 2).snoc h rfl
  simpa using this
theorem reps2 {R : S62 → List Value → Prop} {x y : S62} {a b c d : Value} (h : R x [a, b]) (h' : R y [c, d]) : Reps R 2 [x, y] [a, b, c, d] := by
  have := (reps1 h).snoc h' rfl
  simpa using this
set_option maxRecDepth 100000 in
set_option maxHeartbeats 8000000 in
theorem canonUnrolled_calls (A0 : Option Addr) (c0 : Nat) (g : S62) (A1 : Option Addr) (c1 : Nat) (more : S62) (w : World)
    (hC0 : Kd.C k53 w A0 g.f0.length g.f0) (hl0 : g.f0.length ≤ c0) (hi0 : GIn g) (hw : wG g.f0 + 1 + (wG more.f0 + 1) ≤ 1048576)
    (hC1 : Kd.C k53 w A1 more.f0.length more.f0) (hl1 : more.f0.length ≤ c1) (hi1 : GIn more) (hw' : wG g.f0 + 1 + (wG more.f0 + 1) ≤ 1048576)
    (htab : Lib.TabBelow Tryd.prog w.heap.size w "internal/strconv.uint64pow10" .u64 Lib.pow10Tab) :
    Calls Tryd.prog 6 #[.agg #[.slice A0 g.f0.length c0, .bool g.f1], .agg #[.slice A1 more.f0.length c1, .bool more.f1]] w fun e w' => e = .returned (.bool true) ∧ Below w.heap.size w w' := by
  have HG := Aside0.mk hC0
  have HM := Aside0.mk hC1
  have HL0 := Aside0.mk hl0
  have HL1 := Aside0.mk hl1
  have HI0 := Aside0.mk hi0
  have HI1 := Aside0.mk hi1
  have HT := Aside0.mk htab
  clear hC0 hC1 hl0 hl1 hi0 hi1 htab hw'
  go_enter Tryd.func6, Tryd.ntmps6
  go_wp2_with fail
  have ba : Below w.heap.size w ((w.alloc (.cells #[.slice A0 g.f0.length c0, .bool g.f1] 62)).alloc (.cells #[.slice A1 more.f0.length c1, .bool more.f1] 62)) := ((Below.refl _ _).alloc (Nat.le_refl _) _).alloc (by simp) _
  have x0 : ((w.alloc (.cells #[.slice A0 g.f0.length c0, .bool g.f1] 62)).alloc (.cells #[.slice A1 more.f0.length c1, .bool more.f1] 62)).heap[w.heap.size]? = some (.cells #[.slice A0 g.f0.length c0, .bool g.f1] 62 (0, 0)) := blk_alloc (blk_new w _) _
  have x1 : ((w.alloc (.cells #[.slice A0 g.f0.length c0, .bool g.f1] 62)).alloc (.cells #[.slice A1 more.f0.length c1, .bool more.f1] 62)).heap[w.heap.size + 1]? = some (.cells #[.slice A1 more.f0.length c1, .bool more.f1] 62 (0, 0)) := by have := blk_new (w.alloc (.cells #[.slice A0 g.f0.length c0, .bool g.f1] 62)) (.cells #[.slice A1 more.f0.length c1, .bool more.f1] 62); simpa using this
  refine (alive_calls _ (tab_mono (HT.out.on ba) ba.size)).mono ?_
  rintro e w1 ⟨rfl, hb1⟩
  have X0 := Aside0.mk (blk_below x0 hb1)
  have X1 := Aside0.mk (blk_below x1 hb1)
  have B1 : Aside0 (Below w.heap.size w w1) := ⟨ba.trans (hb1.mono ba.size)⟩
  have Z1 : Aside0 (w.heap.size + 1 < w1.heap.size) := ⟨by have := hb1.size; simp at this; omega⟩
  clear ba x0 x1 hb1
  have l00 : w1.cell? ⟨w.heap.size, 0, none⟩ = some (.slice A0 g.f0.length c0) := (blk_cell X0.out 0).trans rfl
  have l01 : w1.cell? ⟨w.heap.size, 1, none⟩ = some (.bool g.f1) := (blk_cell X0.out 1).trans rfl
  have hg64 : g.f0.length ≤ wG g.f0 := by have := tcount_le_wL [g]; simpa [tcount, wL] using this
  have hm64 : more.f0.length ≤ wG more.f0 := by have := tcount_le_wL [more]; simpa [tcount, wL] using this
  have HWG : Aside0 (wL [g] + [g].length ≤ 1048576) := ⟨by simp [wL]; omega⟩
  have HWM : Aside0 (wL [more] + [more].length ≤ 1048576) := ⟨by simp [wL]; omega⟩
  have LIG : Aside0 (LIn [g]) := ⟨fun r hr => by have e : r = g := List.mem_singleton.1 hr; rw [e]; exact HI0.out⟩
  have LIM : Aside0 (LIn [more]) := ⟨fun r hr => by have e : r = more := List.mem_singleton.1 hr; rw [e]; exact HI1.out⟩
  go_wp2_with (first
    | ((with_reducible refine gate_builtin (b := .append) (xs := #[.tmp 19, .tmp 21]) rfl ?_); at_builtin; refine print_append_cells (w0 := w) w.heap.size rfl (.tmp 19) (.tmp 21) 22 62 (.agg #[.slice none 0 0, .bool false]) 2 32 rfl Tryd.underlying22 info62 rfl (by decide) (by decide) (.slice none 0 0) 0 [] [.slice A0 g.f0.length c0, .bool g.f1] rfl rfl rfl (by intro u hu; rcases List.mem_cons.1 hu with rfl | hu; (· rfl); rcases List.mem_cons.1 hu with rfl | hu; (· rfl); cases hu) (own_nil _ _ _ _) B1.out (by have := Z1.out; omega) (by decide) ?_; intro v2 w2 ho hb hg hat; obtain ⟨A2, c2, rfl, la⟩ := la_of_own ho rfl (reps1 (k_over HL0.out HG.out hb)) LIG.out HWG.out; have B2 := Aside0.mk hb; have L2 := Aside0.mk la; have X2 := Aside0.mk (And.intro (blk_grown X0.out hg (by intro e; cases e)) (blk_grown X1.out hg (by intro e; cases e))); have Z2 : Aside0 (w.heap.size + 1 < w2.heap.size) := ⟨by have := hg.size; have := Z1.out; omega⟩; clear ho hb hg hat la; have l10 : w2.cell? ⟨w.heap.size + 1, 0, none⟩ = some (.slice A1 more.f0.length c1) := (blk_cell X2.out.2 0).trans rfl; have l11 : w2.cell? ⟨w.heap.size + 1, 1, none⟩ = some (.bool more.f1) := (blk_cell X2.out.2 1).trans rfl)
    | ((with_reducible refine gate_builtin (b := .append) (xs := #[.tmp 23, .tmp 25]) rfl ?_); at_builtin; refine print_append_cells (w0 := w) w.heap.size rfl (.tmp 23) (.tmp 25) 22 62 (.agg #[.slice none 0 0, .bool false]) 2 32 rfl Tryd.underlying22 info62 rfl (by decide) (by decide) (.slice none 0 0) 0 [] [.slice A1 more.f0.length c1, .bool more.f1] rfl rfl rfl (by intro u hu; rcases List.mem_cons.1 hu with rfl | hu; (· rfl); rcases List.mem_cons.1 hu with rfl | hu; (· rfl); cases hu) (own_nil _ _ _ _) B2.out (by have := Z2.out; omega) (by decide) ?_; intro v3 w3 ho hb hg hat; obtain ⟨A3, c3, rfl, la⟩ := la_of_own ho rfl (reps1 (k_over HL1.out HM.out hb)) LIM.out HWM.out; have B3 := Aside0.mk hb; have X3 := Aside0.mk (And.intro (blk_grown X2.out.1 hg (by intro e; cases e)) (blk_grown X2.out.2 hg (by intro e; cases e))); have Z3 : Aside0 (w.heap.size + 1 < w3.heap.size) := ⟨by have := hg.size; have := Z2.out; omega⟩; have Q3 := Aside0.mk (bel_of_grown (B := w2.heap.size) hg (Nat.le_refl _) (by intro k e; cases e)); have N3 : Aside0 (∀ k, (Value.slice A3 1 c3).ownBlock = some k → w2.heap.size ≤ k) := ⟨fun k e => by rcases hat with h | ⟨b, h, hle⟩; (· cases e.symm.trans h); have h2 := e.symm.trans h; injection h2 with h2; omega⟩; have M3 := Aside0.mk la; have O3 := Aside0.mk ho; clear ho hb hg hat la l10 l11))
  refine (closed_calls A2 c2 [g] w3 (L2.out.below Q3.out).C L2.out.cap (by simp [tcount]; omega) (by simp) (sok_all (by have := HWG.out; omega))).mono ?_
  rintro e w4 ⟨⟨n4, e4, rfl, h4⟩, hb4⟩
  have B4 := Aside0.mk (B3.out.trans (hb4.mono B3.out.size))
  have X4 := Aside0.mk (And.intro (blk_below X3.out.1 hb4) (blk_below X3.out.2 hb4))
  have Q4 := Aside0.mk (Q3.out.trans (hb4.mono Q3.out.size))
  have M4 := Aside0.mk (M3.out.below hb4)
  have O4 := Aside0.mk (own_bel O3.out hb4)
  have H4 := Aside0.mk h4
  clear hb4 h4 Q3 M3 O3 X3 X1 X0 B1 B2 l00 l01
  go_wp2_with fail
  refine (closed_calls A3 c3 [more] w4 M4.out.C M4.out.cap (by simp [tcount]; omega) (by simp) (sok_all (by have := HWM.out; omega))).mono ?_
  rintro e w5 ⟨⟨n5, e5, rfl, h5⟩, hb5⟩
  have B5 := Aside0.mk (B4.out.trans (hb5.mono B4.out.size))
  have X5 := Aside0.mk (And.intro (blk_below X4.out.1 hb5) (blk_below X4.out.2 hb5))
  have Q5 := Aside0.mk (Q4.out.trans (hb5.mono Q4.out.size))
  have M5 := Aside0.mk (M4.out.below hb5)
  have O5 := Aside0.mk (own_bel O4.out hb5)
  have Z5 : Aside0 (w.heap.size + 1 < w5.heap.size) := ⟨blk_lt X5.out.2⟩
  clear hb5 B3 B4 X4 Q4 M4 O4 Z1 Z3
  obtain ⟨h4⟩ := H4
  rcases h4 with ⟨rfl, rfl, hg⟩ | ⟨rfl, hg⟩
  · rcases h5 with ⟨rfl, rfl, hm⟩ | ⟨rfl, hm⟩
    · have CG := Aside0.mk hg
      have CM := Aside0.mk hm
      clear hg hm
      go_wp2_with fail
      have RI := Aside0.mk (roll_in CG.out (by omega) (by omega))
      refine (roll_calls A2 c2 [g] g w5 (L2.out.below Q5.out).C L2.out.cap rfl (by omega) RI.out.1 RI.out.2).mono ?_
      rintro e w6 ⟨v6, rfl, hr, hb⟩
      obtain ⟨A6, c6, e6, hc6, hC6⟩ := Kd.R_reads hr
      subst e6
      have B6 := Aside0.mk (B5.out.trans (hb.mono B5.out.size))
      have X6 := Aside0.mk (And.intro (blk_below X5.out.1 hb) (blk_below X5.out.2 hb))
      have Q6 := Aside0.mk (Q5.out.trans (hb.mono Q5.out.size))
      have M6 := Aside0.mk (M5.out.below hb)
      have O6 := Aside0.mk (own_bel O5.out hb)
      have Z6 : Aside0 (w.heap.size + 1 < w6.heap.size) := ⟨blk_lt X6.out.2⟩
      have C6 := Aside0.mk hC6
      have D6 := Aside0.mk hc6
      clear hr hb hC6 hc6 RI
      have l60 : w6.cell? ⟨w.heap.size + 1, 0, none⟩ = some (.slice A1 more.f0.length c1) := (blk_cell X6.out.2 0).trans rfl
      have z60 : w.heap.size + 1 < w6.heap.size := Z6.out
      go_wp2_with fail
      have UI := Aside0.mk (unroll_in (more.f0.length : Int) CG.out (by omega) (by omega))
      have U := unroll_calls A6 c6 ⟨g.f0.map (tsp rlH), g.f1⟩ (more.f0.length : Int) (w6.alloc (.cells #[.slice A6 g.f0.length c6, .bool g.f1] 62)) (Kd.C_alloc C6.out _) D6.out ⟨by omega, by omega⟩ (by rw [List.length_map]; omega) UI.out.1 UI.out.2
      dsimp only at U
      rw [List.length_map] at U
      refine U.mono ?_
      clear U UI
      rintro e w8 ⟨v8, rfl, hr, hb⟩
      replace hr : Kd.R k53 53 w8 (w6.alloc (.cells #[.slice A6 g.f0.length c6, .bool g.f1] 62)).heap.size (fun _ => True) v8 (unT more.f0.length g) := hr
      have hba : Below w6.heap.size w6 w8 := ((Below.refl _ _).alloc (Nat.le_refl _) _).trans (hb.mono (by simp))
      obtain ⟨A8, c8, e8, hc8, hC8⟩ := Kd.R_reads hr
      subst e8
      have B8 := Aside0.mk (B6.out.trans (hba.mono B6.out.size))
      have Q8 := Aside0.mk (Q6.out.trans (hba.mono Q6.out.size))
      have O8 := Aside0.mk (own_bel O6.out hba)
      have W8 : Aside0 (∀ k, w6.heap.size ≤ k → some k ≠ (Value.slice A3 1 c3).ownBlock) := ⟨fun k hk e => by have := own_lt O6.out k e.symm; omega⟩
      have Z8 : Aside0 (w.heap.size + 1 < w8.heap.size) := ⟨by have := hba.size; have := Z6.out; omega⟩
      have R8 := Aside0.mk (Kd.R_lower hr (show w6.heap.size ≤ _ by simp))
      have D8 := Aside0.mk hc8
      clear hr hb hba hC8 hc8 l60 z60 X6 Q6 M6 O6 B6 B5 X5 Q5 M5 O5 C6 D6
      have HWU : Aside0 (wL [more, unG more.f0.length g] + [more, unG more.f0.length g].length ≤ 1048576) := ⟨by
        have : wG (unG more.f0.length g).f0 = wG g.f0 := wG_un _ g
        simp [wL, this]; omega⟩
      have LIU : Aside0 (LIn [more, unG more.f0.length g]) := ⟨fun r hr => by
        rcases List.mem_cons.1 hr with e | hr
        · rw [e]; exact HI1.out
        · rw [List.mem_singleton.1 hr]; exact gin_un (by omega) CG.out HI0.out⟩
      go_wp2_with ((with_reducible refine gate_builtin (b := .append) (xs := #[.tmp 62, .tmp 64]) rfl ?_); at_builtin; refine print_append_cells (w0 := w) w.heap.size rfl (.tmp 62) (.tmp 64) 22 62 (.agg #[.slice none 0 0, .bool false]) 2 32 rfl Tryd.underlying22 info62 rfl (by decide) (by decide) (.slice A3 1 c3) 1 [.slice A1 more.f0.length c1, .bool more.f1] [.slice A8 (unT more.f0.length g).length c8, .bool g.f1] rfl (by rw [World.size_alloc]; rfl) rfl (by intro u hu; rcases List.mem_cons.1 hu with rfl | hu; (· rfl); rcases List.mem_cons.1 hu with rfl | hu; (· rfl); cases hu) (own_bel O8.out ((Below.refl _ _).alloc (Nat.le_refl _) _)) (B8.out.alloc (by have := Z8.out; omega) _) (by have := Z8.out; simp; omega) (by decide) ?_; intro v9 w9 ho hb hg hat; have hr9 := Kd.R_grown (Kd.R_bound (Kd.R_alloc R8.out _)) hg (fun k hk => W8.out k hk.2.1); obtain ⟨A9, c9, rfl, la⟩ := la_of_own (gs := [more, unG more.f0.length g]) ho rfl (reps2 (k_over HL1.out HM.out hb) (k62_mk w9 (unG more.f0.length g) D8.out (Kd.R_reads' hr9).2.2)) LIU.out HWU.out; have B9 := Aside0.mk hb; have M9 := Aside0.mk la; have Q9 := Aside0.mk ((Q8.out.trans ((Below.refl _ _).alloc Q8.out.size _)).trans (bel_of_grown hg (by have := Q8.out.size; simp; omega) N3.out)); clear ho hb hg hat hr9 la)
      have L9 := Aside0.mk (L2.out.below Q9.out)
      have X9 := Aside0.mk (And.intro (blk_below X2.out.1 Q9.out) (blk_below X2.out.2 Q9.out))
      clear Q8 Q9 L2 X2 R8 D8 O8 B8 W8 N3 HWU LIU HWG HWM LIG LIM
      go_loopw [13] (fun i W => ∃ (k : Nat), i = .int .i64 k ∧ k ≤ g.f0.length ∧ Below w9.heap.size w9 W) (fun i _ => g.f0.length - (intOf i).toNat)
      case atStart => exact ⟨0, rfl, Nat.zero_le _, Below.refl _ _⟩
      case round =>
        obtain ⟨k, rfl, hk, hbw⟩ := hrel
        have W0 := Aside0.mk hbw
        have x0 : wr.cell? ⟨w.heap.size, 0, none⟩ = some (.slice A0 g.f0.length c0) := (blk_cell (blk_below X9.out.1 hbw) 0).trans rfl
        have x1 : wr.cell? ⟨w.heap.size + 1, 0, none⟩ = some (.slice A1 more.f0.length c1) := (blk_cell (blk_below X9.out.2 hbw) 0).trans rfl
        clear hbw
        have k0 : (0 : Int) ≤ (k : Int) := Int.natCast_nonneg k
        by_cases hlk : k < g.f0.length
        · have hwf : wrap64 ((more.f0.length : Int) + (k : Int)) = (more.f0.length : Int) + (k : Int) := by unfold wrap64; omega
          have K1 := one_calls' A2 c2 [g] A9 c9 [more, unG more.f0.length g] (k : Int) ((more.f0.length : Int) + (k : Int)) wr (L9.out.below W0.out) (M9.out.below W0.out) (tab_mono (HT.out.on (B9.out.trans (W0.out.mono B9.out.size))) (B9.out.trans (W0.out.mono B9.out.size)).size)
          rw [oneM_un CG.out CM.out (by omega) hlk] at K1
          dsimp only at K1
          have KK := Aside0.mk K1
          clear K1
          obtain ⟨wo, rfl⟩ : ∃ wo : World, wo = wr := ⟨_, rfl⟩
          go_wp2_with fail
          refine KK.out.mono ?_
          rintro e w10 ⟨rfl, hb⟩
          have W1 := Aside0.mk (W0.out.trans (hb.mono W0.out.size))
          clear hb KK hwf x0 x1 W0
          go_wp2_with fail
          go_loopw [16] (fun i W => ∃ (q : Nat), i = .int .i64 q ∧ q ≤ k ∧ Below w9.heap.size w9 W) (fun i _ => k - (intOf i).toNat)
          case atStart => exact ⟨0, rfl, Nat.zero_le _, W1.out⟩
          case round =>
            obtain ⟨q, rfl, hq, hbw⟩ := hrel
            have W2 := Aside0.mk hbw
            clear hbw W1
            have q0 : (0 : Int) ≤ (q : Int) := Int.natCast_nonneg q
            by_cases hlq : q < k
            · have hm := oneM_self CG.out (by omega) hlk (show q < g.f0.length by omega)
              have hd : decide (k = q) = false := by simp; omega
              rw [hd] at hm
              have K2 := Aside0.mk (same_calls A2 c2 [g] (k : Int) (q : Int) wr (L9.out.below W2.out) (tab_mono (HT.out.on (B9.out.trans (W2.out.mono B9.out.size))) (B9.out.trans (W2.out.mono B9.out.size)).size) false 0 hm)
              clear hm hd
              go_wp2_with fail
              refine K2.out.mono ?_
              rintro e w11 ⟨rfl, hb⟩
              have W3 := Aside0.mk (W2.out.trans (hb.mono W2.out.size))
              clear hb K2 W2
              go_wp2_with fail
              go_roundw
              case rel => exact ⟨q + 1, by go_num, by omega, W3.out⟩
              case measure => simp [intOf]; omega
            · obtain rfl : q = k := by omega
              clear hq hlq
              go_wp2_with fail
              go_roundw
              case rel => exact ⟨q + 1, by go_num, by omega, W2.out⟩
              case measure => simp [intOf]; omega
        · obtain rfl : k = g.f0.length := by omega
          clear hk hlk
          go_wp2_with fail
          go_ret
          exact ⟨rfl, B9.out.trans (W0.out.mono B9.out.size)⟩
    · go_wp2_with fail
      go_ret
      exact ⟨rfl, B5.out⟩
  · go_wp2_with fail
    go_ret
    exact ⟨rfl, B5.out⟩
end Go.Proofs.YtfgglniigeagdaaDoor.Cn
