/- canon.One: what its parts answer, as numbers. -/
import Derived.Test.YtfgglniigeagdaaDoorCz
import Derived.Test.YtfgglniigeagdaaDoorPc
namespace Go.Proofs.YtfgglniigeagdaaDoor.Cn
set_option linter.unusedSimpArgs false
set_option linter.unusedVariables false
open Go.RowKit Go.Maps Go.Proofs.YtfgglniigeagdaaDoorW.PrintWords Go.Proofs.YtfgglniigeagdaaDoorW.PrintLast Go.Proofs.YtfgglniigeagdaaDoorW.PrintMore Go.Proofs.YtfgglniigeagdaaDoor.QD
/-- Adding never fails where there is room. -/
theorem addTo_room (most : Int) (l : List S62) (gs : List (List S53)) (ids : List Int) (h : manyOf gs + tcount l ≤ most) : ∃ gs' ids', addTo most (gs, ids) l = some (gs', ids') ∧ manyOf gs' ≤ manyOf gs + tcount l ∧ ids'.length = ids.length + tcount l ∧ gs'.length ≤ gs.length + l.length := by
  induction l generalizing gs ids with
  | nil => exact ⟨gs, ids, rfl, by simp [tcount], by simp [tcount], by simp⟩
  | cons r l ih =>
    have ht : tcount (r :: l) = r.f0.length + tcount l := by simp [tcount]
    rw [ht] at h ⊢
    simp only [addTo]
    unfold addStep
    dsimp only
    cases hf : findK gs (ownG ids r) with
    | some p =>
      obtain ⟨gs', ids', h1, h2, h3, h4⟩ := ih gs (ids ++ idsFrom (firstOf gs p) (ownG ids r).length) (by omega)
      refine ⟨gs', ids', h1, by omega, ?_, by simp; omega⟩
      rw [h3, List.length_append, idsFrom_length, ownG_length]
      omega
    | none =>
      dsimp only
      rw [if_neg (by rw [ownG_length]; omega)]
      obtain ⟨gs', ids', h1, h2, h3, h4⟩ := ih (gs ++ [ownG ids r]) (ids ++ idsFrom (manyOf gs) (ownG ids r).length) (by rw [manyOf_snoc, ownG_length]; omega)
      rw [manyOf_snoc, ownG_length] at h2
      rw [List.length_append, idsFrom_length, ownG_length] at h3
      rw [List.length_append, List.length_singleton] at h4
      exact ⟨gs', ids', h1, by omega, by omega, by simp; omega⟩
theorem tcount_drop (l : List S62) (j : Nat) (r : S62) (h : l[j]? = some r) : tcount (l.drop j) = r.f0.length + tcount (l.drop (j + 1)) := by
  obtain ⟨hj, rfl⟩ := List.getElem?_eq_some_iff.1 h
  rw [List.drop_eq_getElem_cons hj]
  unfold tcount
  rw [List.map_cons, List.sum_cons]
theorem step_l0 (m : Nat) (n : Int) (l : List S62) (L j : Int) (h1 : j < L) (h2 : 0 ≤ j) (h3 : j < l.length) : types_Count.l0 (m + 1) n l L j = types_Count.l0 m (wrap64 (n + ((rd_T62 l j).f0.length : Int))) l L (wrap64 (j + 1)) := by
  rw [types_Count.l0, if_pos h1, if_pos h2, if_pos h3]
theorem end_l0 (m : Nat) (n : Int) (l : List S62) (L j : Int) (h1 : ¬ j < L) : types_Count.l0 (m + 1) n l L j = some n := by
  rw [types_Count.l0, if_neg h1]
theorem count_l0 (l : List S62) (L : Nat) (hL : L = l.length) (hl : L ≤ 1099511627776) (m j : Nat) (hm : j + m = L) (n : Int) (h0 : 0 ≤ n) (hn : n + (tcount (l.drop j) : Int) ≤ 2199023255552) : types_Count.l0 (m + 1) n l (L : Int) (j : Int) = some (n + (tcount (l.drop j) : Int)) := by
  induction m generalizing j n with
  | zero =>
    have : j = L := by omega
    subst this
    rw [end_l0 _ _ _ _ _ (Int.lt_irrefl _), hL, List.drop_length]
    simp [tcount]
  | succ m ih =>
    have hlt : j < l.length := by omega
    have hr := rd_RT_at l j hlt
    have hd := tcount_drop l j _ hr
    obtain ⟨q, hq⟩ : ∃ q : Nat, q = (rd_T62 l (j : Int)).f0.length := ⟨_, rfl⟩
    obtain ⟨t1, ht1⟩ : ∃ t1 : Nat, t1 = tcount (l.drop (j + 1)) := ⟨_, rfl⟩
    rw [← hq, ← ht1] at hd
    rw [hd] at hn ⊢
    have e1 : (j : Int) < (L : Int) := by omega
    have e2 : (0 : Int) ≤ (j : Int) := Int.natCast_nonneg j
    have e3 : (j : Int) < (l.length : Int) := by omega
    have e4 : n + (q : Int) + (t1 : Int) = n + ((q + t1 : Nat) : Int) := by omega
    have a1 : j + 1 + m = L := by omega
    have a2 : 0 ≤ n + (q : Int) := by omega
    have a3 : n + (q : Int) + (t1 : Int) ≤ 2199023255552 := by omega
    have w1 : wrap64 (n + (q : Int)) = n + (q : Int) := by unfold wrap64; omega
    have w2 : wrap64 ((j : Int) + 1) = ((j + 1 : Nat) : Int) := by unfold wrap64; omega
    rw [ht1] at a3
    have h3 := ih (j + 1) a1 (n + (q : Int)) a2 a3
    rw [step_l0 (m + 1) n l L j e1 e2 e3, ← hq, w1, w2, h3, ← ht1, e4]
theorem count_eq (l : List S62) (ht : tcount l ≤ 1099511627776) (hl : l.length ≤ 1099511627776) : types_Count.f (l.length + 1) l = some (tcount l : Int) := by
  unfold types_Count.f
  have h := count_l0 l l.length rfl hl l.length 0 (Nat.zero_add _) 0 (Int.le_refl _) (by rw [List.drop_zero]; omega)
  rw [List.drop_zero, Int.zero_add] at h
  exact h
theorem count_calls (A : Option Addr) (c : Nat) (l : List S62) (w : World) (hC : Kd.C k62 w A l.length l) (hc : l.length ≤ c) (ht : tcount l ≤ 1099511627776) (hl : l.length ≤ 1099511627776) :
    Calls Tryd.prog 39 #[.slice A l.length c] w fun e w' => e = .returned (.int .i64 (tcount l : Int)) ∧ Below w.heap.size w w' := types_Count.calls (l.length + 1) A c l _ w hC hc (count_eq l ht hl)
/-- The ids of two lists in a table of their own. -/
noncomputable def oneIds (a b : List S62) : List Int × List Int :=
  match addTo 9223372036854775807 ([], []) a with
  | none => ([], [])
  | some (g1, i1) => match addTo 9223372036854775807 (g1, []) b with
    | none => ([], [])
    | some (g2, i2) => (i1, i2)
open Classical in
/-- What canon.One answers. -/
noncomputable def oneM (a b : List S62) (x y : Int) : Bool × Int :=
  if Clo a ∧ Clo b then
    if 0 ≤ x ∧ x < tcount a ∧ 0 ≤ y ∧ y < tcount b then (rd (oneIds a b).1 x == rd (oneIds a b).2 y, 0) else (false, 1)
  else (false, 50)
end Go.Proofs.YtfgglniigeagdaaDoor.Cn
