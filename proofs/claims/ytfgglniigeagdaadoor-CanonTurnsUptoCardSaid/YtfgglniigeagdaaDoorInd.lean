/- What ids hang on: adding a list again gives the same ids, and whether two types have one id does not hang on what was added ahead. -/
import Derived.Test.YtfgglniigeagdaaDoorOn
import Derived.Test.YtfgglniigeagdaaDoorKi
namespace Go.Proofs.YtfgglniigeagdaaDoor.Cn
set_option linter.unusedSimpArgs false
set_option linter.unusedVariables false
open Go.RowKit Go.Maps Go.Proofs.YtfgglniigeagdaaDoorW.PrintWords Go.Proofs.YtfgglniigeagdaaDoorW.PrintLast Go.Proofs.YtfgglniigeagdaaDoorW.PrintMore Go.Proofs.YtfgglniigeagdaaDoor.QD
/-- No two groups are one. -/
def Dist (gs : List (List S53)) : Prop := ∀ (i j : Nat) (x : List S53), gs[i]? = some x → gs[j]? = some x → i = j
theorem Dist.nil : Dist [] := fun i j x h => by simp at h
theorem Dist.of_PM {gs : List (List S53)} {D : DataW Unit} (h : PM gs D) : Dist gs := fun i j x hi hj => by
  have h1 := (h.hit i x hi).2 .nil
  have h2 := (h.hit j x hj).2 .nil
  rw [h1] at h2
  injection h2 with h2
  injection h2 with _ h2
  omega
theorem Dist.snoc {gs : List (List S53)} {o : List S53} (h : Dist gs) (hn : ∀ x ∈ gs, x ≠ o) : Dist (gs ++ [o]) := by
  intro i j x hi hj
  have key : ∀ (i : Nat), (gs ++ [o])[i]? = some x → (gs[i]? = some x) ∨ (i = gs.length ∧ x = o) := by
    intro i hi
    rcases Nat.lt_or_ge i gs.length with h1 | h1
    · rw [List.getElem?_append_left h1] at hi; exact .inl hi
    · rw [List.getElem?_append_right h1] at hi
      have h2 := (List.getElem?_eq_some_iff.1 hi).1
      simp at h2
      have h3 : i = gs.length := by omega
      subst h3
      simp at hi
      exact .inr ⟨rfl, hi.symm⟩
  rcases key i hi with h1 | ⟨h1, e1⟩ <;> rcases key j hj with h2 | ⟨h2, e2⟩
  · exact h i j x h1 h2
  · exact absurd e2 (hn x (List.mem_of_getElem? h1))
  · exact absurd e1 (hn x (List.mem_of_getElem? h2))
  · omega
theorem firstOf_append (gs t : List (List S53)) (i : Nat) (h : i ≤ gs.length) : firstOf (gs ++ t) i = firstOf gs i := by
  unfold firstOf
  rw [List.take_append_of_le_length h]
theorem firstOf_length (gs : List (List S53)) : firstOf gs gs.length = manyOf gs := by unfold firstOf; rw [List.take_length]
theorem idsFrom_get (n : Int) (k o : Nat) (h : o < k) : (idsFrom n k)[o]? = some (n + o) := by
  unfold idsFrom
  rw [List.getElem?_map, List.getElem?_range h]
  rfl
/-- What adding a group comes to. -/
theorem addStep_char {most : Int} {gs0 gs' : List (List S53)} {ids0 ids' : List Int} {r : S62} (h : addStep most (gs0, ids0) r = some (gs', ids')) (hd : Dist gs0) :
    Dist gs' ∧ (∃ t, gs' = gs0 ++ t) ∧ ∃ idx, gs'[idx]? = some (ownG ids0 r) ∧ ids' = ids0 ++ idsFrom (firstOf gs' idx) r.f0.length := by
  unfold addStep at h
  dsimp only at h
  cases hf : findK gs0 (ownG ids0 r) with
  | some i =>
    rw [hf] at h
    simp only [Option.some.injEq, Prod.mk.injEq] at h
    obtain ⟨rfl, rfl⟩ := h
    obtain ⟨x, hx, hk⟩ := findK_some hf
    have := keyT_inj _ _ hk
    subst this
    exact ⟨hd, ⟨[], by simp⟩, i, hx, by rw [ownG_length]⟩
  | none =>
    rw [hf] at h
    dsimp only at h
    split at h
    · cases h
    · simp only [Option.some.injEq, Prod.mk.injEq] at h
      obtain ⟨rfl, rfl⟩ := h
      have hn := findK_none hf
      refine ⟨hd.snoc (fun x hx e => hn x hx (by rw [e])), ⟨_, rfl⟩, gs0.length, by simp, ?_⟩
      rw [firstOf_append _ _ _ (Nat.le_refl _), firstOf_length, ownG_length]
/-- What adding comes to. -/
theorem addTo_char (most : Int) (l : List S62) : ∀ (gs0 gs' : List (List S53)) (ids0 ids' : List Int), addTo most (gs0, ids0) l = some (gs', ids') → Dist gs0 →
    Dist gs' ∧ (∃ t, gs' = gs0 ++ t) ∧ (∃ t, ids' = ids0 ++ t ∧ t.length = tcount l) ∧
    ∀ (j : Nat) (r : S62), l[j]? = some r → ∃ idx, gs'[idx]? = some (ownG (ids'.take (ids0.length + tcount (l.take j))) r) ∧ ∀ o, o < r.f0.length → ids'[ids0.length + tcount (l.take j) + o]? = some (firstOf gs' idx + o) := by
  induction l with
  | nil =>
    intro gs0 gs' ids0 ids' h hd
    simp only [addTo, Option.some.injEq, Prod.mk.injEq] at h
    obtain ⟨rfl, rfl⟩ := h
    exact ⟨hd, ⟨[], by simp⟩, ⟨[], by simp, by simp [tcount]⟩, fun j r hj => by simp at hj⟩
  | cons r l ih =>
    intro gs0 gs' ids0 ids' h hd
    simp only [addTo] at h
    cases hs : addStep most (gs0, ids0) r with
    | none => rw [hs] at h; cases h
    | some st =>
      obtain ⟨gs1, ids1⟩ := st
      rw [hs] at h
      simp only [Option.bind_some] at h
      obtain ⟨hd1, ⟨t1, ht1⟩, idx, hx, hi⟩ := addStep_char hs hd
      obtain ⟨hd2, ⟨t2, ht2⟩, ⟨u, hu, hul⟩, hall⟩ := ih gs1 gs' ids1 ids' h hd1
      have hl1 : ids1.length = ids0.length + r.f0.length := by rw [hi, List.length_append, idsFrom_length]
      refine ⟨hd2, ⟨t1 ++ t2, by rw [ht2, ht1, List.append_assoc]⟩, ⟨idsFrom (firstOf gs1 idx) r.f0.length ++ u, by rw [hu, hi, List.append_assoc], ?_⟩, ?_⟩
      · rw [List.length_append, idsFrom_length, hul]; simp [tcount]
      · intro j q hj
        cases j with
        | zero =>
          simp at hj
          subst hj
          have hidx : idx < gs1.length := (List.getElem?_eq_some_iff.1 hx).1
          refine ⟨idx, ?_, fun o ho => ?_⟩
          · have e : ids'.take (ids0.length + tcount ((r :: l).take 0)) = ids0 := by
              rw [hu, hi, List.append_assoc]
              simp [tcount]
            rw [e, ht2, List.getElem?_append_left hidx]
            exact hx
          · have e : ids0.length + tcount ((r :: l).take 0) + o = ids0.length + o := by simp [tcount]
            rw [e, hu, hi, List.append_assoc, List.getElem?_append_right (by omega), List.getElem?_append_left (by rw [idsFrom_length]; omega)]
            have e2 : ids0.length + o - ids0.length = o := by omega
            rw [e2, idsFrom_get _ _ _ ho, ht2, firstOf_append _ _ _ (Nat.le_of_lt hidx)]
        | succ j =>
          rw [List.getElem?_cons_succ] at hj
          obtain ⟨idx', h1, h2⟩ := hall j q hj
          have e : ids1.length + tcount (l.take j) = ids0.length + tcount ((r :: l).take (j + 1)) := by
            rw [hl1, List.take_succ_cons]
            simp [tcount]
            omega
          rw [e] at h1 h2
          exact ⟨idx', h1, h2⟩
/-- Adding a list again: the same ids, and nothing new. -/
theorem addTo_again (most m : Int) (l : List S62) (gs0 gs' : List (List S53)) (ids : List Int) (h : addTo most (gs0, []) l = some (gs', ids)) (hd : Dist gs0) : addTo m (gs', []) l = some (gs', ids) := by
  obtain ⟨hd', _, ⟨t, ht, htl⟩, hall⟩ := addTo_char most l gs0 gs' [] ids h hd
  rw [List.nil_append] at ht
  subst ht
  have key : ∀ k, k ≤ l.length → addTo m (gs', []) (l.take k) = some (gs', ids.take (tcount (l.take k))) := by
    intro k
    induction k with
    | zero => intro _; simp [addTo, tcount]
    | succ k ih =>
      intro hk
      have hr : l[k]? = some l[k] := List.getElem?_eq_getElem (by omega)
      rw [addTo_take m _ l k _ hr, ih (by omega)]
      simp only [Option.bind_some]
      obtain ⟨idx, h1, h2⟩ := hall k _ hr
      simp only [List.length_nil, Nat.zero_add] at h1 h2
      unfold addStep
      dsimp only
      cases hf : findK gs' (ownG (ids.take (tcount (l.take k))) l[k]) with
      | none => exact absurd rfl (findK_none hf _ (List.mem_of_getElem? h1))
      | some i =>
        obtain ⟨x, hx, hkx⟩ := findK_some hf
        have := keyT_inj _ _ hkx
        subst this
        have hi := hd' i idx _ hx h1
        subst hi
        dsimp only
        congr 2
        have htk := tcount_take l k _ hr
        have hle := tcount_take_le l k _ hr
        rw [htk, ownG_length]
        apply List.ext_getElem?
        intro p
        rcases Nat.lt_or_ge p (tcount (l.take k)) with hp | hp
        · rw [List.getElem?_append_left (by rw [List.length_take]; omega), List.getElem?_take_of_lt hp, List.getElem?_take_of_lt (by omega)]
        · rw [List.getElem?_append_right (by rw [List.length_take]; omega)]
          have e : (ids.take (tcount (l.take k))).length = tcount (l.take k) := by rw [List.length_take]; omega
          rw [e]
          rcases Nat.lt_or_ge (p - tcount (l.take k)) l[k].f0.length with ho | ho
          · rw [idsFrom_get _ _ _ ho, List.getElem?_take_of_lt (by omega)]
            have := h2 _ ho
            have e2 : tcount (l.take k) + (p - tcount (l.take k)) = p := by omega
            rw [e2] at this
            exact this.symm
          · rw [List.getElem?_eq_none (by rw [idsFrom_length]; omega), List.getElem?_eq_none (by rw [List.length_take]; omega)]
  have := key l.length (Nat.le_refl _)
  rw [List.take_length] at this
  rw [this, ← htl, List.take_length]
/-- The groups' ids lie apart. -/
theorem firstOf_mono (gs : List (List S53)) (i j : Nat) (x : List S53) (h : i < j) (hx : gs[i]? = some x) : firstOf gs i + x.length ≤ firstOf gs j := by
  have hx' : (gs.take j)[i]? = some x := by rw [List.getElem?_take_of_lt h]; exact hx
  have h1 := (firstOf_le (gs.take j) i x hx').2
  have e : firstOf (gs.take j) i = firstOf gs i := by
    unfold firstOf
    rw [List.take_take, Nat.min_eq_left (Nat.le_of_lt h)]
  rw [e] at h1
  exact h1
theorem id_eq_iff {gs : List (List S53)} {i j : Nat} {x y : List S53} {o p : Nat} (hx : gs[i]? = some x) (hy : gs[j]? = some y) (ho : o < x.length) (hp : p < y.length) : firstOf gs i + (o : Int) = firstOf gs j + (p : Int) ↔ i = j ∧ o = p := by
  constructor
  · intro h
    rcases Nat.lt_trichotomy i j with hl | rfl | hl
    · have := firstOf_mono gs i j x hl hx; omega
    · exact ⟨rfl, by omega⟩
    · have := firstOf_mono gs j i y hl hy; omega
  · rintro ⟨rfl, rfl⟩; rfl
/-- Where a type stands in a list of groups. -/
theorem place_of (l : List S62) (k p : Nat) (hk : k ≤ l.length) (hp : p < tcount (l.take k)) : ∃ (j : Nat) (r : S62) (o : Nat), j < k ∧ l[j]? = some r ∧ p = tcount (l.take j) + o ∧ o < r.f0.length := by
  induction k with
  | zero => simp [tcount] at hp
  | succ k ih =>
    have hr : l[k]? = some l[k] := List.getElem?_eq_getElem (by omega)
    rw [tcount_take l k _ hr] at hp
    rcases Nat.lt_or_ge p (tcount (l.take k)) with h | h
    · obtain ⟨j, r, o, h1, h2, h3, h4⟩ := ih (by omega) h
      exact ⟨j, r, o, by omega, h2, h3, h4⟩
    · exact ⟨k, l[k], p - tcount (l.take k), by omega, hr, by omega, by omega⟩
theorem map_iff {α β γ : Type} {f g : α → β} {f' g' : α → γ} (l m : List α) (h : ∀ a ∈ l, ∀ b ∈ m, (f a = g b ↔ f' a = g' b)) : l.map f = m.map g ↔ l.map f' = m.map g' := by
  induction l generalizing m with
  | nil => cases m <;> simp
  | cons a l ih =>
    cases m with
    | nil => simp
    | cons b m =>
      simp only [List.map_cons, List.cons.injEq]
      rw [h a (by simp) b (by simp), ih m (fun x hx y hy => h x (by simp [hx]) y (by simp [hy]))]
/-- All numbers of a type, as Q says. -/
structure TQ (Q : Int → Prop) (s : S53) : Prop where
  q1 : ∀ h ∈ s.f1, Q h
  q2 : ∀ v ∈ s.f2.f1, v.f0 = 5 → Q v.f2
  q3 : ∀ v ∈ s.f2.f2, v.f0 = 5 → Q v.f2
  q4 : ∀ v ∈ s.f2.f3, v.f0.f0 = 5 → Q v.f0.f2
theorem mvp_iff {f g f' g' : Int → Int} {v u : S74} (h : v.f0 = 5 → u.f0 = 5 → (f v.f2 = g u.f2 ↔ f' v.f2 = g' u.f2)) : mvp f v = mvp g u ↔ mvp f' v = mvp g' u := by
  unfold mvp
  by_cases hv : v.f0 = 5 <;> by_cases hu : u.f0 = 5
  · simp only [hv, hu, if_true, S74.mk.injEq, h hv hu, true_and]
  · simp only [hv, hu, if_true, if_false, S74.mk.injEq, Ne.symm hu, false_and]
  · simp only [hv, hu, if_true, if_false, S74.mk.injEq, false_and]
  · simp only [hv, hu, if_false, S74.mk.injEq]
theorem mfp_iff {f g f' g' : Int → Int} {v u : S118} (h : v.f0.f0 = 5 → u.f0.f0 = 5 → (f v.f0.f2 = g u.f0.f2 ↔ f' v.f0.f2 = g' u.f0.f2)) : mfp f v = mfp g u ↔ mfp f' v = mfp g' u := by
  unfold mfp
  simp only [S118.mk.injEq]
  rw [mvp_iff h]
theorem mroll_iff {a b a' b' : List Int} {s t : S53} {P Q : Int → Prop} (hs : TQ P s) (ht : TQ Q t) (h : ∀ x y, P x → Q y → (rollF a x = rollF b y ↔ rollF a' x = rollF b' y)) : mroll a s = mroll b t ↔ mroll a' s = mroll b' t := by
  simp only [mroll_eq, S53.mk.injEq, S51.mk.injEq]
  rw [map_iff (f := rollF a) (g := rollF b) (f' := rollF a') (g' := rollF b') s.f1 t.f1 (fun x hx y hy => h x y (hs.q1 x hx) (ht.q1 y hy)),
    map_iff (f := mvp (rollF a)) (g := mvp (rollF b)) (f' := mvp (rollF a')) (g' := mvp (rollF b')) s.f2.f1 t.f2.f1 (fun x hx y hy => mvp_iff fun e e' => h _ _ (hs.q2 x hx e) (ht.q2 y hy e')),
    map_iff (f := mvp (rollF a)) (g := mvp (rollF b)) (f' := mvp (rollF a')) (g' := mvp (rollF b')) s.f2.f2 t.f2.f2 (fun x hx y hy => mvp_iff fun e e' => h _ _ (hs.q3 x hx e) (ht.q3 y hy e')),
    map_iff (f := mfp (rollF a)) (g := mfp (rollF b)) (f' := mfp (rollF a')) (g' := mfp (rollF b')) s.f2.f3 t.f2.f3 (fun x hx y hy => mfp_iff fun e e' => h _ _ (hs.q4 x hx e) (ht.q4 y hy e'))]
/-! What Closed says of numbers. -/
theorem okF_true (en : Int) (b : Bool) (h : Int) : okF en b h = true ↔ b = true ∧ (-12 ≤ h ∧ h < en) := by
  simp [okF]
  constructor
  · rintro ⟨⟨h1, h2⟩, h3⟩; exact ⟨h1, h3, h2⟩
  · rintro ⟨h1, h3, h2⟩; exact ⟨⟨h1, h2⟩, h3⟩
theorem okS_ints (en : Int) (b : Bool) (l : List Int) : (foldm (okS en) b l).1 = true ↔ b = true ∧ ∀ h ∈ l, -12 ≤ h ∧ h < en := by
  induction l generalizing b with
  | nil => simp [foldm]
  | cons x l ih =>
    simp only [foldm, ih, okS, okF_true, List.mem_cons, forall_eq_or_imp, and_assoc]
theorem okS_vals (en : Int) (b : Bool) (l : List S74) : (foldm (tval (okS en)) b l).1 = true ↔ b = true ∧ ∀ v ∈ l, v.f0 = 5 → -12 ≤ v.f2 ∧ v.f2 < en := by
  induction l generalizing b with
  | nil => simp [foldm]
  | cons x l ih =>
    have e : (tval (okS en) b x).1 = true ↔ b = true ∧ (x.f0 = 5 → -12 ≤ x.f2 ∧ x.f2 < en) := by
      unfold tval
      by_cases h : x.f0 = 5
      · simp only [h, if_true, okS, okF_true, true_implies]
      · simp [h]
    simp only [foldm, ih, e, List.mem_cons, forall_eq_or_imp, and_assoc]
theorem okS_fields (en : Int) (b : Bool) (l : List S118) : (foldm (tfield (okS en)) b l).1 = true ↔ b = true ∧ ∀ v ∈ l, v.f0.f0 = 5 → -12 ≤ v.f0.f2 ∧ v.f0.f2 < en := by
  induction l generalizing b with
  | nil => simp [foldm]
  | cons x l ih =>
    have e : (tfield (okS en) b x).1 = true ↔ b = true ∧ (x.f0.f0 = 5 → -12 ≤ x.f0.f2 ∧ x.f0.f2 < en) := by
      unfold tfield tval
      by_cases h : x.f0.f0 = 5
      · simp only [h, if_true, okS, okF_true, true_implies]
      · simp [h]
    simp only [foldm, ih, e, List.mem_cons, forall_eq_or_imp, and_assoc]
theorem typeOk_iff (en : Int) (s : S53) : typeOk en s = true ↔ (∀ h ∈ s.f1, 0 ≤ h) ∧ TQ (fun h => -12 ≤ h ∧ h < en) s := by
  unfold typeOk tsub
  dsimp only
  rw [okS_fields, okS_vals, okS_vals, okS_ints]
  have e : supOk s.f1 = true ↔ ∀ h ∈ s.f1, 0 ≤ h := by simp [supOk]
  rw [e]
  constructor
  · rintro ⟨⟨⟨⟨h0, h1⟩, h2⟩, h3⟩, h4⟩; exact ⟨h0, h1, h2, h3, h4⟩
  · rintro ⟨h0, h1, h2, h3, h4⟩; exact ⟨⟨⟨⟨h0, h1⟩, h2⟩, h3⟩, h4⟩
theorem Clo.tq {l : List S62} (h : Clo l) {j : Nat} {r : S62} (hr : l[j]? = some r) {s : S53} (hs : s ∈ r.f0) : TQ (fun x => -12 ≤ x ∧ x < (tcount (l.take (j + 1)) : Nat)) s := ((typeOk_iff _ _).1 (h j r hr s hs)).2
/-- Two runs of adding one list. -/
theorem rollF_iff {a b a' b' : List Int} {x y : Int} (hx : -12 ≤ x) (hy : -12 ≤ y) (ha : ∀ i ∈ a, 0 ≤ i) (hb : ∀ i ∈ b, 0 ≤ i) (ha' : ∀ i ∈ a', 0 ≤ i) (hb' : ∀ i ∈ b', 0 ≤ i) (hla : a.length = a'.length) (hlb : b.length = b'.length)
    (h : 0 ≤ x → x < a.length → 0 ≤ y → y < b.length → (rd a x = rd b y ↔ rd a' x = rd b' y)) : rollF a x = rollF b y ↔ rollF a' x = rollF b' y := by
  have pos : ∀ (c : List Int) (z : Int), (∀ i ∈ c, 0 ≤ i) → 0 ≤ z → z < c.length → 0 ≤ rd c z := by
    intro c z hc h0 h1
    have e : rd c z = c[z.toNat]'(by omega) := by simp [rd, List.getD_eq_getElem?_getD, List.getElem?_eq_getElem (show z.toNat < c.length by omega)]
    rw [e]
    exact hc _ (List.getElem_mem _)
  unfold rollF
  rw [← hla, ← hlb]
  by_cases x0 : x < 0 <;> by_cases y0 : y < 0
  · simp only [x0, y0, if_true]
  · simp only [x0, y0, if_true, if_false]
    by_cases y1 : y < b.length
    · simp only [y1, if_true]
      have := pos b y hb (by omega) y1
      have := pos b' y hb' (by omega) (by omega)
      omega
    · simp only [y1, if_false]
  · simp only [x0, y0, if_true, if_false]
    by_cases x1 : x < a.length
    · simp only [x1, if_true]
      have := pos a x ha (by omega) x1
      have := pos a' x ha' (by omega) (by omega)
      omega
    · simp only [x1, if_false]
  · simp only [x0, y0, if_false]
    by_cases x1 : x < a.length <;> by_cases y1 : y < b.length
    · simp only [x1, y1, if_true]
      exact h (by omega) x1 (by omega) y1
    · simp only [x1, y1, if_true, if_false]
      have := pos a x ha (by omega) x1
      have := pos a' x ha' (by omega) (by omega)
      omega
    · simp only [x1, y1, if_true, if_false]
      have := pos b y hb (by omega) y1
      have := pos b' y hb' (by omega) (by omega)
      omega
    · simp only [x1, y1, if_false]
theorem ids_nonneg {most : Int} {l : List S62} {gs0 gs : List (List S53)} {ids : List Int} (h : addTo most (gs0, []) l = some (gs, ids)) (hd : Dist gs0) : ∀ i ∈ ids, 0 ≤ i := by
  obtain ⟨_, _, ⟨t, ht, htl⟩, hall⟩ := addTo_char most l gs0 gs [] ids h hd
  rw [List.nil_append] at ht
  subst ht
  intro i hi
  obtain ⟨p, hp, rfl⟩ := List.getElem_of_mem hi
  obtain ⟨j, r, o, _, hr, rfl, ho⟩ := place_of l l.length p (Nat.le_refl _) (by rw [List.take_length]; omega)
  obtain ⟨idx, h1, h2⟩ := hall j r hr
  have h3 := h2 o ho
  simp only [List.length_nil, Nat.zero_add] at h3
  rw [List.getElem?_eq_getElem hp] at h3
  injection h3 with h3
  rw [h3]
  have := (firstOf_le gs idx _ h1).1
  omega
theorem rd_take (l : List Int) (n : Nat) (x : Int) (h0 : 0 ≤ x) (h : x < n) : rd (l.take n) x = rd l x := by
  unfold rd
  rw [List.getD_eq_getElem?_getD, List.getD_eq_getElem?_getD, List.getElem?_take_of_lt (by omega)]
theorem rd_eq (l : List Int) (x : Int) (v : Int) (h : l[x.toNat]? = some v) : rd l x = v := by
  unfold rd
  rw [List.getD_eq_getElem?_getD, h]
  rfl
theorem tcount_mono (l : List S62) (i j : Nat) (h : i ≤ j) : tcount (l.take i) ≤ tcount (l.take j) := by
  have e : l.take j = l.take i ++ (l.take j).drop i := by
    have := (List.take_append_drop i (l.take j)).symm
    rw [List.take_take, Nat.min_eq_left h] at this
    exact this
  rw [e]
  simp [tcount]
/-- Whether two types have one id does not hang on what was added ahead. -/
theorem ids_alike {l : List S62} (hc : Clo l) {mA mB : Int} {gA0 gA gB0 gB : List (List S53)} {iA iB : List Int} (hA : addTo mA (gA0, []) l = some (gA, iA)) (hB : addTo mB (gB0, []) l = some (gB, iB)) (dA : Dist gA0) (dB : Dist gB0) (x y : Int) (hx : 0 ≤ x ∧ x < tcount l) (hy : 0 ≤ y ∧ y < tcount l) :
    rd iA x = rd iA y ↔ rd iB x = rd iB y := by
  have nA := ids_nonneg hA dA
  have nB := ids_nonneg hB dB
  obtain ⟨dA', _, ⟨t, ht, lA⟩, allA⟩ := addTo_char mA l gA0 gA [] iA hA dA
  rw [List.nil_append] at ht
  subst ht
  obtain ⟨dB', _, ⟨t, ht, lB⟩, allB⟩ := addTo_char mB l gB0 gB [] iB hB dB
  rw [List.nil_append] at ht
  subst ht
  have key : ∀ k, k ≤ l.length → ∀ x y : Int, 0 ≤ x → x < (tcount (l.take k) : Nat) → 0 ≤ y → y < (tcount (l.take k) : Nat) → (rd iA x = rd iA y ↔ rd iB x = rd iB y) := by
    intro k
    induction k with
    | zero => intro _ x y _ h; simp [tcount] at h; omega
    | succ k ih =>
      intro hk x y hx0 hx1 hy0 hy1
      obtain ⟨j, r, o, hj, hr, ex, ho⟩ := place_of l (k + 1) x.toNat hk (by omega)
      obtain ⟨j', r', o', hj', hr', ey, ho'⟩ := place_of l (k + 1) y.toNat hk (by omega)
      obtain ⟨a, a1, a2⟩ := allA j r hr
      obtain ⟨a', a1', a2'⟩ := allA j' r' hr'
      obtain ⟨b, b1, b2⟩ := allB j r hr
      obtain ⟨b', b1', b2'⟩ := allB j' r' hr'
      simp only [List.length_nil, Nat.zero_add] at a1 a2 a1' a2' b1 b2 b1' b2'
      rw [rd_eq iA x _ (by rw [ex]; exact a2 o ho), rd_eq iA y _ (by rw [ey]; exact a2' o' ho'), rd_eq iB x _ (by rw [ex]; exact b2 o ho), rd_eq iB y _ (by rw [ey]; exact b2' o' ho')]
      rw [id_eq_iff a1 a1' (by rw [ownG_length]; exact ho) (by rw [ownG_length]; exact ho'), id_eq_iff b1 b1' (by rw [ownG_length]; exact ho) (by rw [ownG_length]; exact ho')]
      have eA : a = a' ↔ ownG (iA.take (tcount (l.take j))) r = ownG (iA.take (tcount (l.take j'))) r' := by
        constructor
        · rintro rfl; rw [a1] at a1'; injection a1'
        · intro e; rw [← e] at a1'; exact dA' _ _ _ a1 a1'
      have eB : b = b' ↔ ownG (iB.take (tcount (l.take j))) r = ownG (iB.take (tcount (l.take j'))) r' := by
        constructor
        · rintro rfl; rw [b1] at b1'; injection b1'
        · intro e; rw [← e] at b1'; exact dB' _ _ _ b1 b1'
      rw [eA, eB]
      have hle := tcount_take_le l j r hr
      have hle' := tcount_take_le l j' r' hr'
      have lenA : ∀ n, n ≤ tcount l → (iA.take n).length = n := fun n hn => by rw [List.length_take]; omega
      have lenB : ∀ n, n ≤ tcount l → (iB.take n).length = n := fun n hn => by rw [List.length_take]; omega
      have hm := tcount_mono l j k (by omega)
      have hm' := tcount_mono l j' k (by omega)
      have own : ownG (iA.take (tcount (l.take j))) r = ownG (iA.take (tcount (l.take j'))) r' ↔ ownG (iB.take (tcount (l.take j))) r = ownG (iB.take (tcount (l.take j'))) r' := by
        unfold ownG
        refine map_iff _ _ fun s hs u hu => ?_
        refine mroll_iff (hc.tq hr hs) (hc.tq hr' hu) fun p q hp hq => ?_
        refine rollF_iff hp.1 hq.1 (fun i hi => nA i (List.mem_of_mem_take hi)) (fun i hi => nA i (List.mem_of_mem_take hi)) (fun i hi => nB i (List.mem_of_mem_take hi)) (fun i hi => nB i (List.mem_of_mem_take hi)) (by rw [lenA _ (by omega), lenB _ (by omega)]) (by rw [lenA _ (by omega), lenB _ (by omega)]) ?_
        intro p0 p1 q0 q1
        rw [lenA _ (by omega)] at p1 q1
        rw [rd_take _ _ _ p0 p1, rd_take _ _ _ q0 q1, rd_take _ _ _ p0 p1, rd_take _ _ _ q0 q1]
        exact ih (by omega) p q p0 (by omega) q0 (by omega)
      rw [own]
  have := key l.length (Nat.le_refl _) x y hx.1 (by rw [List.take_length]; exact hx.2) hy.1 (by rw [List.take_length]; exact hy.2)
  exact this
end Go.Proofs.YtfgglniigeagdaaDoor.Cn
