/- types.turned and canon.mapped over a type as a whole. canon.rolled and its closure: numbers of a list into ids. Tables of groups: what they hold, and what memory says of them. A table in memory, and what adding groups leaves as it was. Adding groups, as numbers and lists; how a list of groups is read meanwhile. Bounds of what is rolled up. What adding groups keeps, loop by loop. Adding groups: what each step of the walk reads. -/
import Derived.Test.YtfgglniigeagdaaDoorTurned
import Derived.Test.YtfgglniigeagdaaDoorMapped
import Derived.Test.YtfgglniigeagdaaDoorTx
import Derived.WalkLawsBesides
import Derived.WalkSpells
import Derived.Deep.RegionHeld3
import Derived.Outline
import Derived.Test.YtfgglniigeagdaaDoorKey
import Derived.Maps.OwnSet
import Derived.Maps.OwnOps
import Derived.Maps.Views
import Derived.StringKeys
import Derived.Carry
/- types.turned and canon.mapped over a type as a whole. -/
namespace Go.Proofs.YtfgglniigeagdaaDoor.Cn
open Go.RowKit Go.Proofs.YtfgglniigeagdaaDoorW.PrintWords Go.Proofs.YtfgglniigeagdaaDoorW.PrintLast Go.Proofs.YtfgglniigeagdaaDoor.QD
/-- A type whose lists are no longer than they can be, and all of whose numbers are as Q says. -/
structure SOk (Q : Int → Prop) (x : S53) : Prop where
  q1 : ∀ h ∈ x.f1, Q h
  q2 : ∀ v ∈ x.f2.f1, v.f0 = 5 → Q v.f2
  q3 : ∀ v ∈ x.f2.f2, v.f0 = 5 → Q v.f2
  q4 : ∀ v ∈ x.f2.f3, v.f0.f0 = 5 → Q v.f0.f2
  l1 : x.f1.length * 8 ≤ 140737488351232
  l2 : x.f2.f1.length * 24 ≤ 140737488351232
  l3 : x.f2.f2.length * 24 ≤ 140737488351232
  l4 : x.f2.f3.length * 32 ≤ 140737488351232
theorem SOk.imp {Q Q' : Int → Prop} {x : S53} (h : SOk Q x) (hq : ∀ i, Q i → Q' i) : SOk Q' x :=
  ⟨fun i hi => hq i (h.q1 i hi), fun v hv e => hq _ (h.q2 v hv e), fun v hv e => hq _ (h.q3 v hv e), fun v hv e => hq _ (h.q4 v hv e), h.l1, h.l2, h.l3, h.l4⟩
def tsub {σ : Type} (f : σ → Int → σ × Int) (s : σ) (x : S53) : σ × S53 :=
  ((foldm (tfield f) (foldm (tval f) (foldm (tval f) (foldm f s x.f1).1 x.f2.f1).1 x.f2.f2).1 x.f2.f3).1,
    ⟨x.f0, (foldm f s x.f1).2, ⟨x.f2.f0, (foldm (tval f) (foldm f s x.f1).1 x.f2.f1).2, (foldm (tval f) (foldm (tval f) (foldm f s x.f1).1 x.f2.f1).1 x.f2.f2).2, (foldm (tfield f) (foldm (tval f) (foldm (tval f) (foldm f s x.f1).1 x.f2.f1).1 x.f2.f2).1 x.f2.f3).2⟩⟩)
def msub {σ : Type} (f : σ → Int → σ × Int) (s : σ) (x : S53) : σ × S53 :=
  ((foldm (mfield f) (foldm (mval f) (foldm (mval f) (foldm f s x.f1).1 x.f2.f1).1 x.f2.f2).1 x.f2.f3).1,
    ⟨x.f0, (foldm f s x.f1).2, ⟨x.f2.f0, (foldm (mval f) (foldm f s x.f1).1 x.f2.f1).2, (foldm (mval f) (foldm (mval f) (foldm f s x.f1).1 x.f2.f1).1 x.f2.f2).2, (foldm (mfield f) (foldm (mval f) (foldm (mval f) (foldm f s x.f1).1 x.f2.f1).1 x.f2.f2).1 x.f2.f3).2⟩⟩)
theorem k53_made {w : World} {B : Nat} {b : Bool} {n : Int} {v1 v2 v3 v4 : Value} {l1 : List Int} {l2 l3 : List S74} {l4 : List S118} (h1 : Kd.R (Kd.int .i64) 3 w B (fun _ => True) v1 l1) (h2 : Kd.R k74 74 w B (fun _ => True) v2 l2) (h3 : Kd.R k74 74 w B (fun _ => True) v3 l3) (h4 : Kd.R k118 118 w B (fun _ => True) v4 l4) :
    k53.M w B (fun _ => True) ⟨b, l1, ⟨n, l2, l3, l4⟩⟩ [.bool b, v1, .int .i64 n, v2, v3, v4] :=
  ⟨[.bool b], [v1, .int .i64 n, v2, v3, v4], rfl, rfl, ⟨[v1], [.int .i64 n, v2, v3, v4], rfl, ⟨v1, rfl, h1⟩, ⟨[.int .i64 n], [v2, v3, v4], rfl, rfl, ⟨[v2], [v3, v4], rfl, ⟨v2, rfl, h2⟩, ⟨[v3], [v4], rfl, ⟨v3, rfl, h3⟩, ⟨v4, rfl, h4⟩⟩⟩⟩⟩⟩
theorem turned_sub {base : Nat} {row : Option Nat} {σ : Type} {Q : Int → Prop} {St : σ → World → Prop} {f : σ → Int → σ × Int} {fv : Value} (C : Cb base row Q St f fv) (win : World) (s : σ) (x : S53) (cs : List Value) (w : World) (hbase : base ≤ w.heap.size)
    (hwin : Below win.heap.size win w) (hrow : ∀ k, row = some k → win.heap.size ≤ k) (hs : St s w) (hx : k53.K win x cs) (hq : SOk Q x) :
    Calls Tryd.prog 48 #[.agg cs.toArray, fv] w fun e w' => ∃ cs' : List Value, e = .returned (.agg cs'.toArray) ∧ k53.M w' w.heap.size (fun _ => True) (tsub f s x).2 cs' ∧ St (tsub f s x).1 w' ∧ w.grownBy w' row := by
  obtain ⟨A1, c1, A3, c3, A4, c4, A5, c5, rfl, _, r1, _, r2, _, r3, _, r4⟩ := k53_open hx
  refine (turned_calls C win s x.f0 x.f2.f0 A1 c1 x.f1 A3 c3 x.f2.f1 A4 c4 x.f2.f2 A5 c5 x.f2.f3 w hbase hwin hrow hs r1 r2 r3 r4 hq.q1 hq.q2 hq.q3 hq.q4 hq.l1 hq.l2 hq.l3 hq.l4).mono ?_
  rintro e w' ⟨v1, v2, v3, v4, rfl, h1, h2, h3, h4, hst, hg⟩
  exact ⟨_, rfl, k53_made h1 h2 h3 h4, hst, hg⟩
theorem mapped_sub {base : Nat} {row : Option Nat} {σ : Type} {Q : Int → Prop} {St : σ → World → Prop} {f : σ → Int → σ × Int} {fv : Value} (C : Cb base row Q St f fv) (win : World) (s : σ) (x : S53) (cs : List Value) (w : World) (hbase : base ≤ w.heap.size)
    (hwin : Below win.heap.size win w) (hrow : ∀ k, row = some k → win.heap.size ≤ k) (hs : St s w) (hx : k53.K win x cs) (hq : SOk Q x) :
    Calls Tryd.prog 46 #[.agg cs.toArray, fv] w fun e w' => ∃ cs' : List Value, e = .returned (.agg cs'.toArray) ∧ k53.M w' w.heap.size (fun _ => True) (msub f s x).2 cs' ∧ St (msub f s x).1 w' ∧ w.grownBy w' row := by
  obtain ⟨A1, c1, A3, c3, A4, c4, A5, c5, rfl, _, r1, _, r2, _, r3, _, r4⟩ := k53_open hx
  refine (mapped_calls C win s x.f0 x.f2.f0 A1 c1 x.f1 A3 c3 x.f2.f1 A4 c4 x.f2.f2 A5 c5 x.f2.f3 w hbase hwin hrow hs r1 r2 r3 r4 hq.q1 hq.q2 hq.q3 hq.q4 hq.l1 hq.l2 hq.l3 hq.l4).mono ?_
  rintro e w' ⟨v1, v2, v3, v4, rfl, h1, h2, h3, h4, hst, hg⟩
  exact ⟨_, rfl, k53_made h1 h2 h3 h4, hst, hg⟩
end Go.Proofs.YtfgglniigeagdaaDoor.Cn
/- canon.rolled and its closure: numbers of a list into ids. -/
namespace Go.Proofs.YtfgglniigeagdaaDoor.Cn
open Go.RowKit Go.Proofs.YtfgglniigeagdaaDoorW.PrintWords Go.Proofs.YtfgglniigeagdaaDoorW.PrintLast Go.Proofs.YtfgglniigeagdaaDoor.QD
def rollF (ids : List Int) (h : Int) : Int := if h < 0 then h else if h < ids.length then rd ids h else -100 - (h - ids.length)
def RollQ (h : Int) : Prop := -1000000000000 ≤ h ∧ h ≤ 1000000000000
theorem hcf_rolledT (args : Array Value) (w : World) : (callFunc 79 args).run Tryd.prog w = .ok (.enter 79 args) w := enters_ Tryd.func79 (by kernel_rfl) rfl args w
set_option maxRecDepth 100000 in
theorem rolledT_calls (ids : List Int) (h : Int) (g : Nat) (A : Option Addr) (c : Nat) (w : World) (hg : w.cell? ⟨g, 0, none⟩ = some (.slice A ids.length c)) (hr : Kd.C (Kd.int .i64) w A ids.length ids) (hq : RollQ h) :
    Calls Tryd.prog 79 #[.int .i64 h, .pointer (some ⟨g, 0, none⟩)] w fun e w' => e = .returned (.int .i64 (rollF ids h)) ∧ w' = w := by
  obtain ⟨q1, q2⟩ := hq
  have hm := hr.2.1
  by_cases h0 : h < 0
  · have e : rollF ids h = h := by simp [rollF, h0]
    rw [e]
    go_enter Tryd.func79, Tryd.ntmps79
    go_wp2_with fail
    go_ret
    exact ⟨rfl, rfl⟩
  · by_cases h1 : h < ids.length
    · have e : rollF ids h = rd ids h := by simp [rollF, h0, h1]
      rw [e]
      obtain ⟨ad, rfl, hx⟩ := Kd.at_int hr h (by omega) h1
      have p : 0 ≤ h := by omega
      clear h0
      go_enter Tryd.func79, Tryd.ntmps79
      go_wp2_with fail
      go_ret
      exact ⟨rfl, rfl⟩
    · have e : rollF ids h = -100 - (h - ids.length) := by simp [rollF, h0, h1]
      rw [e]
      have p : 0 ≤ h := by omega
      have p1 : (ids.length : Int) ≤ h := by omega
      clear h0 h1
      go_enter Tryd.func79, Tryd.ntmps79
      go_wp2_with fail
      go_ret
      exact ⟨rfl, rfl⟩
set_option maxRecDepth 100000 in
/-- rolled: a function value over ids as they are now. -/
theorem rolled_calls (ids : List Int) (A : Option Addr) (c : Nat) (w : World) (hr : Kd.C (Kd.int .i64) w A ids.length ids) :
    Calls Tryd.prog 64 #[.slice A ids.length c] w fun e w' => ∃ fv, e = .returned fv ∧ Below w.heap.size w w' ∧ Cb w'.heap.size none RollQ (fun (_ : Unit) w1 => Below w'.heap.size w' w1) (fun s h => (s, rollF ids h)) fv := by
  go_enter Tryd.func64, Tryd.ntmps64
  go_wp2_with fail
  go_ret
  refine ⟨_, rfl, (Below.refl _ _).alloc (Nat.le_refl _) _, ?_⟩
  refine Cb.pure hcf_rolledT fun h w1 hb hq => ?_
  have hc : w1.cell? ⟨w.heap.size, 0, none⟩ = some (.slice A ids.length c) := (hb.cell (p := ⟨w.heap.size, 0, none⟩) (by simp)).trans (by simp)
  have hr1 := Kd.C_below (Kd.C_alloc hr _) hb
  exact (rolledT_calls ids h w.heap.size A c w1 hc hr1 hq).mono fun e w' ⟨he, hw⟩ => ⟨he, by subst hw; exact Below.refl _ _⟩
end Go.Proofs.YtfgglniigeagdaaDoor.Cn
/- Tables of groups: what they hold, and what memory says of them. -/
namespace Go.Proofs.YtfgglniigeagdaaDoor.Cn
open Go.RowKit Go.Maps Go.Proofs.YtfgglniigeagdaaDoorW.PrintWords Go.Proofs.YtfgglniigeagdaaDoorW.PrintLast Go.Proofs.YtfgglniigeagdaaDoor.QD
def kFam : Kd (Int × List S53) := Kd.pair (Kd.int .i64) (Kd.slice 53 k53)
theorem infoFam : (Tryd.prog.info? 93).map (fun i => (i.zero, i.size, i.bytes)) = some (some (.agg #[.int .i64 0, .slice none 0 0]), 2, 32) := by kernel_rfl
theorem infoST : (Tryd.prog.info? 53).map (fun i => (i.zero, i.size, i.bytes)) = some (some (.agg #[.bool false, .slice none 0 0, .int .i64 0, .slice none 0 0, .slice none 0 0, .slice none 0 0]), 6, 112) := by kernel_rfl
def manyOf (gs : List (List S53)) : Int := ((gs.map List.length).sum : Nat)
def famsFrom : Int → List (List S53) → List (Int × List S53)
  | _, [] => []
  | n, g :: gs => (n, g) :: famsFrom (n + g.length) gs
theorem manyOf_snoc (gs : List (List S53)) (g : List S53) : manyOf (gs ++ [g]) = manyOf gs + g.length := by simp [manyOf]
theorem famsFrom_snoc (n : Int) (gs : List (List S53)) (g : List S53) : famsFrom n (gs ++ [g]) = famsFrom n gs ++ [(n + manyOf gs, g)] := by
  induction gs generalizing n with
  | nil => simp [famsFrom, manyOf]
  | cons h gs ih =>
    simp only [List.cons_append, famsFrom, ih]
    have e : n + manyOf (h :: gs) = n + h.length + manyOf gs := by simp [manyOf]; omega
    rw [e]
theorem famsFrom_length (n : Int) (gs : List (List S53)) : (famsFrom n gs).length = gs.length := by
  induction gs generalizing n with
  | nil => rfl
  | cons h gs ih => simp [famsFrom, ih]
/-- The first id of group i. -/
def firstOf (gs : List (List S53)) (i : Nat) : Int := manyOf (gs.take i)
theorem famsFrom_get (n : Int) (gs : List (List S53)) (i : Nat) (g : List S53) (h : gs[i]? = some g) : (famsFrom n gs)[i]? = some (n + firstOf gs i, g) := by
  induction gs generalizing n i with
  | nil => simp at h
  | cons x gs ih =>
    cases i with
    | zero => simp at h; subst h; simp [famsFrom, firstOf, manyOf]
    | succ i =>
      simp only [famsFrom, List.getElem?_cons_succ] at h ⊢
      rw [ih _ i h]
      have e : firstOf (x :: gs) (i + 1) = x.length + firstOf gs i := by simp [firstOf, manyOf]
      rw [e]
      congr 2
      omega
/-- The map of places: each group's text leads to its number. -/
structure PM (gs : List (List S53)) (D : DataW Unit) : Prop where
  isMap : IsMap D
  hit : ∀ (i : Nat) (g : List S53), gs[i]? = some g → has D (.string (keyT g)) = true ∧ ∀ z, D.atKey (.string (keyT g)) z = .lit (.int .i64 i)
  miss : ∀ bs, (∀ g ∈ gs, keyT g ≠ bs) → has D (.string bs) = false
theorem PM.nil : PM [] (.map []) := ⟨isMap_empty, fun i g h => by simp at h, fun bs _ => rfl⟩
theorem PM.snoc {gs : List (List S53)} {D : DataW Unit} (h : PM gs D) {g : List S53} (hn : ∀ x ∈ gs, keyT x ≠ keyT g) : PM (gs ++ [g]) (D.put (.string (keyT g)) (.lit (.int .i64 gs.length))) := by
  refine ⟨h.isMap.put _ _, fun i x hx => ?_, fun bs hb => ?_⟩
  · rcases Nat.lt_or_ge i gs.length with hi | hi
    · rw [List.getElem?_append_left hi] at hx
      have hne : (Lit.string (keyT x)) ≠ .string (keyT g) := fun e => hn x (List.mem_of_getElem? hx) (by injection e)
      refine ⟨?_, fun z => ?_⟩
      · rw [has_put_other hne]; exact (h.hit i x hx).1
      · rw [atKey_put_other hne]; exact (h.hit i x hx).2 z
    · rw [List.getElem?_append_right hi] at hx
      have hi0 : i = gs.length := by
        have := (List.getElem?_eq_some_iff.1 hx).1
        simp at this
        omega
      subst hi0
      simp at hx
      subst hx
      exact ⟨has_put_same h.isMap (by trivial) _, fun z => atKey_put_same h.isMap (by trivial) _ z⟩
  · have hne : (Lit.string bs) ≠ .string (keyT g) := fun e => hb g (by simp) (by injection e with e; exact e.symm)
    rw [has_put_other hne]
    exact h.miss bs (fun x hx => hb x (by simp [hx]))
end Go.Proofs.YtfgglniigeagdaaDoor.Cn
/- A table in memory, and what adding groups leaves as it was. -/
namespace Go.Proofs.YtfgglniigeagdaaDoor.Cn
open Go.RowKit Go.Maps Go.Proofs.YtfgglniigeagdaaDoorW.PrintWords Go.Proofs.YtfgglniigeagdaaDoorW.PrintLast Go.Proofs.YtfgglniigeagdaaDoor.QD
theorem placesLaw : Keyed Tryd.prog 9 := string_keyed Tryd.underlying9
/-- Block g (of type t: a table or its parts) holds the groups gs; v: the row of groups, b: the map's block, D: what it holds. -/
structure TB (B g : Nat) (t : TypeId) (rest : List Value) (ok : Nat → Prop) (gs : List (List S53)) (v : Value) (b : Nat) (D : DataW Unit) (W : World) : Prop where
  box : W.heap[g]? = some (.cells (v :: .map (some b) :: .int .i64 (manyOf gs) :: rest).toArray t (0, 0))
  row : Kd.R kFam 93 W B ok v (famsFrom 0 gs)
  map : W.ownsMap Tryd.prog 9 (plainElem (H := Unit) Tryd.prog 3) b gs.length D
  pm : PM gs D
  hg : B ≤ g
  hb : B ≤ b
  tab : Lib.TabBelow Tryd.prog B W "internal/strconv.uint64pow10" .u64 Lib.pow10Tab
def TabTy (t : TypeId) : Prop := t = 47 ∨ t = 45
section
variable {B g b : Nat} {t : TypeId} {rest : List Value} {ok : Nat → Prop} {gs : List (List S53)} {v : Value} {D : DataW Unit} {W W' : World}
theorem map_ne {α : Type} {d : Kd α} {e : Nat} {ok' : Nat → Prop} {u : Value} {l : List α} {B' n : Nat} (hm : W.ownsMap Tryd.prog 9 (plainElem (H := Unit) Tryd.prog 3) b n D) (hr : Kd.R d e W B' ok' u l) : some b ≠ u.ownBlock := by
  intro e0
  obtain ⟨es, clock, hb, _⟩ := hm
  obtain ⟨_, inner, ho, _⟩ := hr
  obtain ⟨cells, hc⟩ := own_typed ho b e0.symm
  rw [hb] at hc
  simp at hc
theorem map_ne_blk {n k : Nat} {cs : Array Value} {t : TypeId} (hm : W.ownsMap Tryd.prog 9 (plainElem (H := Unit) Tryd.prog 3) b n D) (hk : W.heap[k]? = some (.cells cs t (0, 0))) : k ≠ b := by
  rintro rfl
  obtain ⟨es, clock, hb, _⟩ := hm
  rw [hb] at hk
  simp at hk
/-- Rows stay while the map is written. -/
theorem R_map {α : Type} {d : Kd α} {e : Nat} {ok' : Nat → Prop} {u : Value} {l : List α} {B' n : Nat} (hm : W.ownsMap Tryd.prog 9 (plainElem (H := Unit) Tryd.prog 3) b n D) (hr : Kd.R d e W B' ok' u l) (hg : W.grownBy W' (some b)) : Kd.R d e W' B' ok' u l := by
  refine Kd.R_mono (Kd.R_grown (Kd.R_bound hr) hg (fun k hk e => ?_)) (fun k hk => hk.1)
  obtain ⟨_, _, _, q, _, cells, hc⟩ := hk
  injection e with e
  subst e
  exact map_ne_blk hm hc rfl
/-- Rows of other types than the row v are none of its block. -/
theorem R_apart {α β : Type} {d : Kd α} {d' : Kd β} {e e' : Nat} {ok1 ok2 : Nat → Prop} {u w : Value} {m : List α} {l : List β} {B1 B2 : Nat} (hr : Kd.R d' e' W B2 ok2 w l) (hu : Kd.R d e W B1 ok1 u m) (hq : ∀ q, q ∈ e :: d.E → q ≠ e') : Kd.R d e W B1 (fun k => ok1 k ∧ some k ≠ w.ownBlock) u m := by
  refine Kd.R_mono (Kd.R_bound hu) (fun k hk => ⟨hk.1, fun e => ?_⟩)
  obtain ⟨_, inner, ho, _⟩ := hr
  obtain ⟨cells, hc⟩ := own_typed ho k e.symm
  obtain ⟨_, _, _, q, hq1, cells', hc'⟩ := hk
  rw [hc] at hc'
  injection hc' with hc'
  injection hc' with _ hc'
  exact hq q hq1 hc'.symm
theorem TB.below (h : TB B g t rest ok gs v b D W) (hb : Below W.heap.size W W') (hz : B ≤ W.heap.size) : TB B g t rest ok gs v b D W' :=
  ⟨blk_below h.box hb, Kd.R_below h.row hb, h.map.kept (grown_of_below hb none) (by simp), h.pm, h.hg, h.hb, h.tab.on (hb.mono hz)⟩
theorem TB.alloc (h : TB B g t rest ok gs v b D W) (hz : B ≤ W.heap.size) (o : Obj) : TB B g t rest ok gs v b D (W.alloc o) := h.below ((Below.refl _ _).alloc (Nat.le_refl _) o) hz
/-- Another row has grown: none of the table's. -/
theorem TB.grown (h : TB B g t rest ok gs v b D W) {α : Type} {d : Kd α} {e B' : Nat} {ok' : Nat → Prop} {u : Value} {l : List α} (hr : Kd.R d e W B' ok' u l) (hB' : B ≤ B') (he : e ≠ t) (hg : W.grownBy W' u.ownBlock) (hok : ∀ k, ok k → some k ≠ u.ownBlock) : TB B g t rest ok gs v b D W' := by
  have hbel : Below B W W' := ⟨hg.os, hg.tape, hg.output, hg.size, fun i hi => hg.block i (by have := blk_lt h.box; have := h.hg; omega) (fun e0 => by have := own_base' hr i e0.symm; omega)⟩
  exact ⟨blk_grown h.box hg (Kd.R_ne hr h.box he), Kd.R_grown h.row hg hok, h.map.kept hg (map_ne h.map hr), h.pm, h.hg, h.hb, h.tab.on hbel⟩
theorem TB.weak (h : TB B g t rest ok gs v b D W) {ok' : Nat → Prop} (hk : ∀ k, ok k → ok' k) : TB B g t rest ok' gs v b D W := ⟨h.box, Kd.R_mono h.row hk, h.map, h.pm, h.hg, h.hb, h.tab⟩
end
/-- What adding groups leaves of the world w0: blocks below B; and all that is neither the table's block, its map nor a row of groups. -/
structure FrA (B g b : Nat) (w0 W : World) : Prop where
  bel : Below B w0 W
  oth : ∀ (k : Nat) (o : Obj), w0.heap[k]? = some o → k ≠ g → k ≠ b → (∀ c fz, o ≠ .cells c 93 fz) → W.heap[k]? = some o
  z : B ≤ w0.heap.size
section
variable {B g b : Nat} {w0 W W' : World}
theorem FrA.refl (h : B ≤ w0.heap.size) : FrA B g b w0 w0 := ⟨Below.refl _ _, fun _ _ h _ _ _ => h, h⟩
theorem FrA.zz (h : FrA B g b w0 W) : B ≤ W.heap.size := Nat.le_trans h.z h.bel.size
theorem FrA.below (h : FrA B g b w0 W) (hb : Below W.heap.size W W') : FrA B g b w0 W' :=
  ⟨h.bel.trans (hb.mono h.zz), fun k o hk h1 h2 h3 => by
    have e := h.oth k o hk h1 h2 h3
    exact (hb.block k (Array.getElem?_eq_some_iff.1 e).1).trans e, h.z⟩
theorem FrA.alloc (h : FrA B g b w0 W) (o : Obj) : FrA B g b w0 (W.alloc o) := h.below ((Below.refl _ _).alloc (Nat.le_refl _) o)
theorem FrA.drew (h : FrA B g b w0 W) : FrA B g b w0 W.drew := h.below ⟨rfl, rfl, rfl, Nat.le_refl _, fun _ _ => rfl⟩
/-- A row that the call itself made has grown. -/
theorem FrA.own (h : FrA B g b w0 W) {α : Type} {d : Kd α} {e : Nat} {ok : Nat → Prop} {u : Value} {l : List α} (hr : Kd.R d e W w0.heap.size ok u l) (hg : W.grownBy W' u.ownBlock) : FrA B g b w0 W' := by
  have hn : ∀ k, k < w0.heap.size → some k ≠ u.ownBlock := fun k hk e0 => by have := own_base' hr k e0.symm; omega
  refine ⟨⟨hg.os.trans h.bel.os, hg.tape.trans h.bel.tape, hg.output.trans h.bel.output, Nat.le_trans h.bel.size hg.size, fun k hk => (hg.block k (by have := h.bel.size; have := h.z; omega) (hn k (by have := h.z; omega))).trans (h.bel.block k hk)⟩, fun k o hk h1 h2 h3 => ?_, h.z⟩
  have e := h.oth k o hk h1 h2 h3
  exact (hg.block k (Array.getElem?_eq_some_iff.1 e).1 (hn k (Array.getElem?_eq_some_iff.1 hk).1)).trans e
/-- The map was written. -/
theorem FrA.map (h : FrA B g b w0 W) (hb : B ≤ b) (hg : W.grownBy W' (some b)) : FrA B g b w0 W' := by
  refine ⟨⟨hg.os.trans h.bel.os, hg.tape.trans h.bel.tape, hg.output.trans h.bel.output, Nat.le_trans h.bel.size hg.size, fun k hk => (hg.block k (by have := h.bel.size; have := h.z; omega) (by intro e; injection e; omega)).trans (h.bel.block k hk)⟩, fun k o hk h1 h2 h3 => ?_, h.z⟩
  have e := h.oth k o hk h1 h2 h3
  exact (hg.block k (Array.getElem?_eq_some_iff.1 e).1 (by intro e0; injection e0 with e0; exact h2 e0)).trans e
/-- The row of groups has grown. -/
theorem FrA.fams (h : FrA B g b w0 W) {ok : Nat → Prop} {u : Value} {l : List (Int × List S53)} (hr : Kd.R kFam 93 W B ok u l) (hg : W.grownBy W' u.ownBlock) : FrA B g b w0 W' := by
  have hn : ∀ k, k < B → some k ≠ u.ownBlock := fun k hk e0 => by have := own_base' hr k e0.symm; omega
  refine ⟨⟨hg.os.trans h.bel.os, hg.tape.trans h.bel.tape, hg.output.trans h.bel.output, Nat.le_trans h.bel.size hg.size, fun k hk => (hg.block k (by have := h.bel.size; have := h.z; omega) (hn k hk)).trans (h.bel.block k hk)⟩, fun k o hk h1 h2 h3 => ?_, h.z⟩
  have e := h.oth k o hk h1 h2 h3
  refine (hg.block k (Array.getElem?_eq_some_iff.1 e).1 (fun e0 => ?_)).trans e
  obtain ⟨_, inner, ho, _⟩ := hr
  obtain ⟨cells, hc⟩ := own_typed ho k e0.symm
  rw [e] at hc
  injection hc with hc
  exact h3 _ _ hc
/-- A store into the table's block. -/
theorem FrA.store (h : FrA B g b w0 W) (hg : B ≤ g) (i : Nat) (u : Value) : FrA B g b w0 (W.setCell ⟨g, i, none⟩ u) :=
  ⟨h.bel.trans ((Below.refl _ _).setCell hg u), fun k o hk h1 h2 h3 => (Below.heap_setCell W ⟨g, i, none⟩ u k h1).trans (h.oth k o hk h1 h2 h3), h.z⟩
end
end Go.Proofs.YtfgglniigeagdaaDoor.Cn
/- Adding groups, as numbers and lists; how a list of groups is read meanwhile. -/
namespace Go.Proofs.YtfgglniigeagdaaDoor.Cn
open Go.RowKit Go.Maps Go.Proofs.YtfgglniigeagdaaDoorW.PrintWords Go.Proofs.YtfgglniigeagdaaDoorW.PrintLast Go.Proofs.YtfgglniigeagdaaDoor.QD
/-- A type rolled up over the ids of the types ahead. -/
def mroll (ids : List Int) (s : S53) : S53 := (msub (fun (u : Unit) h => (u, rollF ids h)) () s).2
def ownG (ids : List Int) (r : S62) : List S53 := r.f0.map (mroll ids)
def findK (gs : List (List S53)) (o : List S53) : Option Nat := gs.findIdx? (fun x => keyT x == keyT o)
def idsFrom (n : Int) (k : Nat) : List Int := (List.range k).map fun (i : Nat) => n + (i : Int)
theorem idsFrom_succ (n : Int) (k : Nat) : idsFrom n (k + 1) = idsFrom n k ++ [n + k] := by simp [idsFrom, List.range_succ]
theorem idsFrom_length (n : Int) (k : Nat) : (idsFrom n k).length = k := by simp [idsFrom]
def addStep (most : Int) (st : List (List S53) × List Int) (r : S62) : Option (List (List S53) × List Int) :=
  match findK st.1 (ownG st.2 r) with
  | some i => some (st.1, st.2 ++ idsFrom (firstOf st.1 i) (ownG st.2 r).length)
  | none => if manyOf st.1 + (ownG st.2 r).length > most then none else some (st.1 ++ [ownG st.2 r], st.2 ++ idsFrom (manyOf st.1) (ownG st.2 r).length)
def addTo (most : Int) (st : List (List S53) × List Int) : List S62 → Option (List (List S53) × List Int)
  | [] => some st
  | r :: l => (addStep most st r).bind fun st' => addTo most st' l
theorem addTo_snoc (most : Int) (st : List (List S53) × List Int) (l : List S62) (r : S62) : addTo most st (l ++ [r]) = (addTo most st l).bind fun st' => addStep most st' r := by
  induction l generalizing st with
  | nil => simp [addTo]
  | cons x l ih =>
    simp only [List.cons_append, addTo]
    cases addStep most st x with
    | none => rfl
    | some st' => simp [ih]
theorem addTo_take (most : Int) (st : List (List S53) × List Int) (l : List S62) (j : Nat) (r : S62) (h : l[j]? = some r) : addTo most st (l.take (j + 1)) = (addTo most st (l.take j)).bind fun st' => addStep most st' r := by
  rw [List.take_add_one, h]
  exact addTo_snoc most st _ r
theorem addTo_stop (most : Int) (st : List (List S53) × List Int) (l : List S62) (j : Nat) (h : addTo most st (l.take j) = none) : addTo most st l = none := by
  induction l generalizing st j with
  | nil => simp [addTo] at h
  | cons x l ih =>
    cases j with
    | zero => simp [addTo] at h
    | succ j =>
      simp only [List.take_succ_cons, addTo] at h ⊢
      cases hx : addStep most st x with
      | none => rfl
      | some st' => rw [hx] at h; exact ih st' j h
theorem ownG_length (ids : List Int) (r : S62) : (ownG ids r).length = r.f0.length := by simp [ownG]
/-- How many types groups have. -/
def tcount (l : List S62) : Nat := (l.map fun r => r.f0.length).sum
theorem tcount_take_le (l : List S62) (j : Nat) (r : S62) (h : l[j]? = some r) : tcount (l.take j) + r.f0.length ≤ tcount l := by
  have e : l = l.take j ++ r :: l.drop (j + 1) := by
    have hl := (List.getElem?_eq_some_iff.1 h)
    obtain ⟨hj, rfl⟩ := hl
    rw [List.getElem_cons_drop, List.take_append_drop]
  have : tcount l = tcount (l.take j) + (r.f0.length + tcount (l.drop (j + 1))) := by
    conv => lhs; rw [e]
    simp [tcount]
  omega
theorem tcount_take (l : List S62) (j : Nat) (r : S62) (h : l[j]? = some r) : tcount (l.take (j + 1)) = tcount (l.take j) + r.f0.length := by
  rw [List.take_add_one, h]
  simp [tcount]
/-- What is known of a state that adding has reached: all ids are of the table; it is no greater than what was added. -/
structure AB (n0 : Int) (k : Nat) (st : List (List S53) × List Int) : Prop where
  many : manyOf st.1 ≤ n0 + k
  len : st.2.length = k
  ids : ∀ i ∈ st.2, 0 ≤ i ∧ i < manyOf st.1
theorem manyOf_nonneg (gs : List (List S53)) : 0 ≤ manyOf gs := by unfold manyOf; omega
theorem firstOf_le (gs : List (List S53)) (i : Nat) (g : List S53) (h : gs[i]? = some g) : 0 ≤ firstOf gs i ∧ firstOf gs i + g.length ≤ manyOf gs := by
  refine ⟨manyOf_nonneg _, ?_⟩
  have e : gs = gs.take i ++ g :: gs.drop (i + 1) := by
    obtain ⟨hj, rfl⟩ := (List.getElem?_eq_some_iff.1 h)
    rw [List.getElem_cons_drop, List.take_append_drop]
  have : manyOf gs = manyOf (gs.take i) + (g.length + manyOf (gs.drop (i + 1))) := by
    conv => lhs; rw [e]
    simp [manyOf]
  have := manyOf_nonneg (gs.drop (i + 1))
  unfold firstOf
  omega
theorem findK_some {gs : List (List S53)} {o : List S53} {i : Nat} (h : findK gs o = some i) : ∃ x, gs[i]? = some x ∧ keyT x = keyT o := by
  unfold findK at h
  rw [List.findIdx?_eq_some_iff_getElem] at h
  obtain ⟨hi, he, _⟩ := h
  exact ⟨gs[i], List.getElem?_eq_getElem hi, by simpa using he⟩
theorem findK_none {gs : List (List S53)} {o : List S53} (h : findK gs o = none) : ∀ x ∈ gs, keyT x ≠ keyT o := by
  unfold findK at h
  rw [List.findIdx?_eq_none_iff] at h
  intro x hx
  simpa using h x hx
theorem keep_ids {m m' : Int} {ids : List Int} {n : Int} {k : Nat} (h : ∀ i ∈ ids, 0 ≤ i ∧ i < m) (hm : m ≤ m') (h0 : 0 ≤ n) (h1 : n + k ≤ m') : ∀ i ∈ ids ++ idsFrom n k, 0 ≤ i ∧ i < m' := by
  intro i hi
  rcases List.mem_append.1 hi with hi | hi
  · have := h i hi; omega
  · simp only [idsFrom, List.mem_map, List.mem_range] at hi
    obtain ⟨q, hq, rfl⟩ := hi
    omega
/-- LR S A l: in every world of S the list l is read at A, each group at the same place. -/
def LR (S : World → Prop) (A : Option Addr) (l : List S62) : Prop := ∃ hd : Nat → Option Addr × Nat, ∀ (j : Nat) (r : S62), l[j]? = some r → ∃ ad, A = some ad ∧ ∀ W, S W →
  W.cell? (ad.add (j * 2)) = some (.slice (hd j).1 r.f0.length (hd j).2) ∧ W.cell? ⟨(ad.add (j * 2)).block, (ad.add (j * 2)).off + 1, none⟩ = some (.bool r.f1) ∧ r.f0.length ≤ (hd j).2 ∧ Kd.C k53 W (hd j).1 r.f0.length r.f0
theorem LR.of_C {win : World} {A : Option Addr} {l : List S62} (h : Kd.C k62 win A l.length l) {S : World → Prop} (hS : ∀ W, S W → Below win.heap.size win W) : LR S A l := by
  have key : ∀ j : Nat, ∃ p : Option Addr × Nat, ∀ r, l[j]? = some r → ∃ ad, A = some ad ∧ win.cell? (ad.add (j * 2)) = some (.slice p.1 r.f0.length p.2) ∧ win.cell? ⟨(ad.add (j * 2)).block, (ad.add (j * 2)).off + 1, none⟩ = some (.bool r.f1) ∧ r.f0.length ≤ p.2 ∧ Kd.C k53 win p.1 r.f0.length r.f0 := by
    intro j
    rcases Nat.lt_or_ge j l.length with hj | hj
    · obtain ⟨ad, A0, c0, e, h0, h1, h2, h3⟩ := at_T62 h (j : Int) (by omega) (by omega)
      refine ⟨(A0, c0), fun r hr => ⟨ad, e, ?_⟩⟩
      have e1 : rd_T62 l (j : Int) = r := by
        have : l[j]? = some (rd_T62 l (j : Int)) := by simp [rd_T62, List.getD_eq_getElem?_getD, List.getElem?_eq_getElem hj]
        rw [hr] at this
        injection this with this
        exact this.symm
      rw [e1] at h0 h1 h2 h3
      exact ⟨h0, h1, h2, h3⟩
    · exact ⟨(none, 0), fun r hr => by rw [List.getElem?_eq_none hj] at hr; cases hr⟩
  obtain ⟨hd, hh⟩ := Classical.axiomOfChoice key
  refine ⟨hd, fun j r hr => ?_⟩
  obtain ⟨ad, e, h0, h1, h2, h3⟩ := hh j r hr
  exact ⟨ad, e, fun W hW => ⟨((hS W hW).cell (World.block_lt_of_cell? win _ h0)).trans h0, ((hS W hW).cell (World.block_lt_of_cell? win _ h1)).trans h1, h2, Kd.C_below h3 (hS W hW)⟩⟩
end Go.Proofs.YtfgglniigeagdaaDoor.Cn
/- Bounds of what is rolled up. -/
namespace Go.Proofs.YtfgglniigeagdaaDoor.Cn
open Go.RowKit Go.Maps Go.Proofs.YtfgglniigeagdaaDoorW.PrintWords Go.Proofs.YtfgglniigeagdaaDoorW.PrintLast Go.Proofs.YtfgglniigeagdaaDoor.QD
def mvp (r : Int → Int) (v : S74) : S74 := if v.f0 = 5 then ⟨v.f0, v.f1, r v.f2⟩ else ⟨v.f0, false, 0⟩
def mfp (r : Int → Int) (f : S118) : S118 := ⟨mvp r f.f0, f.f1⟩
theorem mval_pure (r : Int → Int) : mval (fun (u : Unit) h => (u, r h)) = fun (_ : Unit) v => ((), mvp r v) := by
  funext u v
  unfold mval mvp
  split <;> rfl
theorem mfield_pure (r : Int → Int) : mfield (fun (u : Unit) h => (u, r h)) = fun (_ : Unit) v => ((), mfp r v) := by
  funext u v
  unfold mfield mfp
  rw [mval_pure]
theorem msub_pure (r : Int → Int) (s : S53) : msub (fun (u : Unit) h => (u, r h)) () s = ((), ⟨s.f0, s.f1.map r, ⟨s.f2.f0, s.f2.f1.map (mvp r), s.f2.f2.map (mvp r), s.f2.f3.map (mfp r)⟩⟩) := by
  unfold msub
  rw [mval_pure, mfield_pure]
  have e : (fun (u : Unit) (h : Int) => (u, r h)) = fun (_ : Unit) h => ((), r h) := by funext u h; rfl
  rw [e]
  simp only [foldm_pure]
theorem mroll_eq (ids : List Int) (s : S53) : mroll ids s = ⟨s.f0, s.f1.map (rollF ids), ⟨s.f2.f0, s.f2.f1.map (mvp (rollF ids)), s.f2.f2.map (mvp (rollF ids)), s.f2.f3.map (mfp (rollF ids))⟩⟩ := by
  unfold mroll
  rw [msub_pure]
/-- How much a type, a group, groups hold. -/
def wS (s : S53) : Nat := s.f1.length + s.f2.f1.length + s.f2.f2.length + s.f2.f3.length + 1
def wG (l : List S53) : Nat := (l.map wS).sum
def wL (l : List S62) : Nat := (l.map fun r => wG r.f0).sum
theorem wS_mroll (ids : List Int) (s : S53) : wS (mroll ids s) = wS s := by rw [mroll_eq]; simp [wS]
theorem wG_own (ids : List Int) (r : S62) : wG (ownG ids r) = wG r.f0 := by
  unfold wG ownG
  rw [List.map_map]
  congr 1
  apply List.map_congr_left
  intro s _
  exact wS_mroll ids s
theorem sum_le_mem {α : Type} (f : α → Nat) (l : List α) (x : α) (h : x ∈ l) : f x ≤ (l.map f).sum := by
  induction l with
  | nil => cases h
  | cons y l ih =>
    rcases List.mem_cons.1 h with rfl | h
    · simp
    · have := ih h; simp; omega
theorem length_le_wG (l : List S53) : l.length ≤ wG l := by
  induction l with
  | nil => simp [wG]
  | cons s l ih => simp only [wG, List.map_cons, List.sum_cons, List.length_cons] at *; have : 1 ≤ wS s := by unfold wS; omega
                   omega
theorem tcount_le_wL (l : List S62) : tcount l ≤ wL l := by
  induction l with
  | nil => simp [tcount, wL]
  | cons r l ih => simp only [tcount, wL, List.map_cons, List.sum_cons] at *; have := length_le_wG r.f0; omega
theorem flatMap_len {α : Type} (g : α → List UInt8) (l : List α) (c : Nat) (h : ∀ x ∈ l, (g x).length ≤ c) : (l.flatMap g).length ≤ c * l.length := by
  induction l with
  | nil => simp
  | cons x l ih =>
    have h1 := h x (by simp)
    have h2 := ih (fun y hy => h y (by simp [hy]))
    simp only [List.flatMap_cons, List.length_append, List.length_cons, Nat.mul_add, Nat.mul_one]
    omega
theorem subT_le (s : S53) (h : S64 s) (hl : wS s ≤ 9000000000000000000) : (subT s).length ≤ 250 * wS s := by
  have a := flatMap_len numT s.f1 22 (fun x hx => numT_le x (h.n1 x hx))
  have b := flatMap_len valT s.f2.f1 45 (fun x hx => valT_le x (h.n2 x hx).1 (h.n2 x hx).2)
  have c := flatMap_len valT s.f2.f2 45 (fun x hx => valT_le x (h.n3 x hx).1 (h.n3 x hx).2)
  have d := flatMap_len fieldT s.f2.f3 46 (fun x hx => by
    have := valT_le x.f0 (h.n4 x hx).1 (h.n4 x hx).2
    have := flagT_le x.f1
    simp only [fieldT, List.length_append]
    omega)
  have n : ∀ k : Nat, k ≤ wS s → (numT (k : Int)).length ≤ 22 := fun k hk => numT_le _ ⟨by omega, by omega⟩
  have e1 := n s.f1.length (by unfold wS; omega)
  have e2 := n s.f2.f1.length (by unfold wS; omega)
  have e3 := n s.f2.f2.length (by unfold wS; omega)
  have e4 := n s.f2.f3.length (by unfold wS; omega)
  have e5 := numT_le s.f2.f0 h.k
  have e6 := flagT_le s.f0
  simp only [subT, List.length_append]
  unfold wS
  omega
theorem keyT_le (l : List S53) (h : ∀ s ∈ l, S64 s) (hl : wG l ≤ 9000000000000000000) : (keyT l).length ≤ 250 * wG l := by
  induction l with
  | nil => simp [keyT, wG]
  | cons s l ih =>
    simp only [wG, List.map_cons, List.sum_cons] at hl ⊢
    have h1 := subT_le s (h s (by simp)) (by omega)
    have h2 := ih (fun x hx => h x (by simp [hx])) (by unfold wG; omega)
    simp only [keyT, List.flatMap_cons, List.length_append, wG] at h2 ⊢
    omega
/-- A type that may be rolled up. -/
structure RIn (s : S53) : Prop where
  ok : SOk RollQ s
  k : N64 s.f2.f0
  n2 : ∀ v ∈ s.f2.f1, N64 v.f0
  n3 : ∀ v ∈ s.f2.f2, N64 v.f0
  n4 : ∀ v ∈ s.f2.f3, N64 v.f0.f0
theorem rollF_64 {ids : List Int} {M : Int} (hi : ∀ i ∈ ids, 0 ≤ i ∧ i < M) (hM : M ≤ 4611686018427387904) (hl : ids.length ≤ 1000000000000) {h : Int} (hq : RollQ h) : N64 (rollF ids h) := by
  obtain ⟨q1, q2⟩ := hq
  unfold rollF
  split
  · exact ⟨by omega, by omega⟩
  · split
    · rename_i h0 h1
      have hlt : h.toNat < ids.length := by omega
      have : rd ids h = ids[h.toNat] := by simp [rd, List.getD_eq_getElem?_getD, List.getElem?_eq_getElem hlt]
      rw [this]
      have := hi _ (List.getElem_mem hlt)
      exact ⟨by omega, by omega⟩
    · exact ⟨by omega, by omega⟩
theorem mvp_64 {ids : List Int} {M : Int} (hi : ∀ i ∈ ids, 0 ≤ i ∧ i < M) (hM : M ≤ 4611686018427387904) (hl : ids.length ≤ 1000000000000) {v : S74} (h0 : N64 v.f0) (hq : v.f0 = 5 → RollQ v.f2) : N64 (mvp (rollF ids) v).f0 ∧ N64 (mvp (rollF ids) v).f2 := by
  unfold mvp
  split
  · rename_i h5
    exact ⟨h0, rollF_64 hi hM hl (hq h5)⟩
  · exact ⟨h0, ⟨by show (-9223372036854775808 : Int) ≤ 0; omega, by show (0 : Int) ≤ 9223372036854775807; omega⟩⟩
theorem mroll_64 {ids : List Int} {M : Int} (hi : ∀ i ∈ ids, 0 ≤ i ∧ i < M) (hM : M ≤ 4611686018427387904) (hl : ids.length ≤ 1000000000000) {s : S53} (h : RIn s) : S64 (mroll ids s) := by
  rw [mroll_eq]
  refine ⟨fun x hx => ?_, h.k, fun v hv => ?_, fun v hv => ?_, fun v hv => ?_⟩
  · obtain ⟨y, hy, rfl⟩ := List.mem_map.1 hx
    exact rollF_64 hi hM hl (h.ok.q1 y hy)
  · obtain ⟨y, hy, rfl⟩ := List.mem_map.1 hv
    exact mvp_64 hi hM hl (h.n2 y hy) (h.ok.q2 y hy)
  · obtain ⟨y, hy, rfl⟩ := List.mem_map.1 hv
    exact mvp_64 hi hM hl (h.n3 y hy) (h.ok.q3 y hy)
  · obtain ⟨y, hy, rfl⟩ := List.mem_map.1 hv
    exact mvp_64 hi hM hl (h.n4 y hy) (h.ok.q4 y hy)
theorem ownG_64 {ids : List Int} {M : Int} (hi : ∀ i ∈ ids, 0 ≤ i ∧ i < M) (hM : M ≤ 4611686018427387904) (hl : ids.length ≤ 1000000000000) {r : S62} (h : ∀ s ∈ r.f0, RIn s) : ∀ s ∈ ownG ids r, S64 s := by
  intro s hs
  obtain ⟨y, hy, rfl⟩ := List.mem_map.1 hs
  exact mroll_64 hi hM hl (h y hy)
end Go.Proofs.YtfgglniigeagdaaDoor.Cn
/- What adding groups keeps, loop by loop. -/
namespace Go.Proofs.YtfgglniigeagdaaDoor.Cn
set_option linter.unusedVariables false
open Go.RowKit Go.Maps Go.Proofs.YtfgglniigeagdaaDoorW.PrintWords Go.Proofs.YtfgglniigeagdaaDoorW.PrintLast Go.Proofs.YtfgglniigeagdaaDoor.QD
structure AX where
  B : Nat
  g : Nat
  t : TypeId
  rest : List Value
  gs0 : List (List S53)
  b : Nat
  l : List S62
  most : Int
  w : World
/-- The table, and the ids so far. -/
structure AI (X : AX) (gs : List (List S53)) (v : Value) (D : DataW Unit) (vi : Value) (ids : List Int) (W : World) : Prop where
  tb : TB X.B X.g X.t X.rest (fun k => True ∧ some k ≠ vi.ownBlock) gs v X.b D W
  iv : Kd.R (Kd.int .i64) 3 W X.w.heap.size (fun _ => True) vi ids
  fr : FrA X.B X.g X.b X.w W
/-- .. and the types of the group that is being rolled up. -/
structure AO (X : AX) (gs : List (List S53)) (v : Value) (D : DataW Unit) (vi : Value) (ids : List Int) (w2 : World) (vo : Value) (o : List S53) (W : World) : Prop where
  tb : TB X.B X.g X.t X.rest (fun k => (True ∧ some k ≠ vi.ownBlock) ∧ some k ≠ vo.ownBlock) gs v X.b D W
  iv : Kd.R (Kd.int .i64) 3 W X.w.heap.size (fun _ => True) vi ids
  fr : FrA X.B X.g X.b X.w W
  ov : Kd.R k53 53 W w2.heap.size (fun k => True ∧ some k ≠ vi.ownBlock) vo o
  b2 : Below w2.heap.size w2 W
  z2 : X.w.heap.size ≤ w2.heap.size
section
variable {X : AX} {gs : List (List S53)} {v vi vo : Value} {D : DataW Unit} {ids : List Int} {w2 W W' : World} {o : List S53}
theorem AI.below (h : AI X gs v D vi ids W) (hb : Below W.heap.size W W') : AI X gs v D vi ids W' := ⟨h.tb.below hb h.fr.zz, Kd.R_below h.iv hb, h.fr.below hb⟩
theorem AI.start (h : AI X gs v D vi ids W) (hz : X.w.heap.size ≤ W.heap.size) : AO X gs v D vi ids W (.slice none 0 0) [] W :=
  ⟨h.tb.weak (fun k hk => ⟨hk, by simp [Value.ownBlock]⟩), h.iv, h.fr, Kd.R_nil _ _ _ _ _, Below.refl _ _, hz⟩
theorem AO.below (h : AO X gs v D vi ids w2 vo o W) (hb : Below W.heap.size W W') : AO X gs v D vi ids w2 vo o W' :=
  ⟨h.tb.below hb h.fr.zz, Kd.R_below h.iv hb, h.fr.below hb, Kd.R_below h.ov hb, h.b2.trans (hb.mono h.b2.size), h.z2⟩
/-- A type more. -/
theorem AO.app (ht : X.t ≠ 53) (hB : X.B ≤ X.w.heap.size) (h : AO X gs v D vi ids w2 vo o W) {vo' : Value} {o' : List S53} (hr : Kd.R k53 53 W' w2.heap.size (fun k => True ∧ some k ≠ vi.ownBlock) vo' o') (hg : W.grownBy W' vo.ownBlock) (hat : vo'.ownBlock = vo.ownBlock ∨ ∃ b, vo'.ownBlock = some b ∧ W.heap.size ≤ b) : AO X gs v D vi ids w2 vo' o' W' := by
  have tb1 := h.tb.grown h.ov (Nat.le_trans hB h.z2) (Ne.symm ht) hg (fun k hk => hk.2)
  refine ⟨⟨tb1.box, ?_, tb1.map, tb1.pm, tb1.hg, tb1.hb, tb1.tab⟩, grown_types h.ov hg h.iv (by decide), h.fr.own (Kd.R_lower h.ov h.z2) hg, hr, ?_, h.z2⟩
  · exact Kd.R_mono (Kd.R_after (ok := fun k => True ∧ some k ≠ vi.ownBlock) h.tb.row hg hat) (fun k hk => hk)
  · exact ⟨hg.os.trans h.b2.os, hg.tape.trans h.b2.tape, hg.output.trans h.b2.output, Nat.le_trans h.b2.size hg.size, fun k hk => (hg.block k (by have := h.b2.size; omega) (fun e => by have := own_base' h.ov k e.symm; omega)).trans (h.b2.block k hk)⟩
theorem AO.done (h : AO X gs v D vi ids w2 vo o W) : AI X gs v D vi ids W := ⟨h.tb.weak (fun k hk => hk.1), h.iv, h.fr⟩
/-- An id more. -/
theorem AI.app (ht : X.t ≠ 3) (hB : X.B ≤ X.w.heap.size) (h : AI X gs v D vi ids W) {vi' : Value} {ids' : List Int} (hr : Kd.R (Kd.int .i64) 3 W' X.w.heap.size (fun _ => True) vi' ids') (hg : W.grownBy W' vi.ownBlock) (hat : vi'.ownBlock = vi.ownBlock ∨ ∃ b, vi'.ownBlock = some b ∧ W.heap.size ≤ b) : AI X gs v D vi' ids' W' := by
  have tb1 := h.tb.grown h.iv hB (Ne.symm ht) hg (fun k hk => hk.2)
  exact ⟨⟨tb1.box, Kd.R_after h.tb.row hg hat, tb1.map, tb1.pm, tb1.hg, tb1.hb, tb1.tab⟩, hr, h.fr.own h.iv hg⟩
end
/-- Behind the map's store, ahead of the group's. -/
structure AN (X : AX) (gs : List (List S53)) (v : Value) (D : DataW Unit) (vi : Value) (ids : List Int) (vo : Value) (o : List S53) (W : World) : Prop where
  box : W.heap[X.g]? = some (.cells (v :: .map (some X.b) :: .int .i64 (manyOf gs) :: X.rest).toArray X.t (0, 0))
  row : Kd.R kFam 93 W X.B (fun k => True ∧ some k ≠ vi.ownBlock) v (famsFrom 0 gs)
  map : W.ownsMap Tryd.prog 9 (plainElem (H := Unit) Tryd.prog 3) X.b (gs.length + 1) D
  iv : Kd.R (Kd.int .i64) 3 W X.w.heap.size (fun _ => True) vi ids
  fr : FrA X.B X.g X.b X.w W
  ov : Kd.R k53 53 W X.w.heap.size (fun k => True ∧ some k ≠ vi.ownBlock) vo o
  hg : X.B ≤ X.g
  hb : X.B ≤ X.b
  tab : Lib.TabBelow Tryd.prog X.B W "internal/strconv.uint64pow10" .u64 Lib.pow10Tab
/-- The group is laid down; m: how many types the table says it has. -/
structure AQ (X : AX) (gs : List (List S53)) (v : Value) (m : Int) (D : DataW Unit) (vi : Value) (ids : List Int) (W : World) : Prop where
  box : W.heap[X.g]? = some (.cells (v :: .map (some X.b) :: .int .i64 m :: X.rest).toArray X.t (0, 0))
  row : Kd.R kFam 93 W X.B (fun k => True ∧ some k ≠ vi.ownBlock) v (famsFrom 0 gs)
  map : W.ownsMap Tryd.prog 9 (plainElem (H := Unit) Tryd.prog 3) X.b gs.length D
  iv : Kd.R (Kd.int .i64) 3 W X.w.heap.size (fun _ => True) vi ids
  fr : FrA X.B X.g X.b X.w W
  hg : X.B ≤ X.g
  hb : X.B ≤ X.b
  tab : Lib.TabBelow Tryd.prog X.B W "internal/strconv.uint64pow10" .u64 Lib.pow10Tab
section
variable {X : AX} {gs : List (List S53)} {v vi vo : Value} {D : DataW Unit} {ids : List Int} {w2 W W' : World} {o : List S53} {m : Int}
theorem bel_of_grown {B : Nat} {r : Option Nat} (hg : W.grownBy W' r) (hz : B ≤ W.heap.size) (hr : ∀ k, r = some k → B ≤ k) : Below B W W' :=
  ⟨hg.os, hg.tape, hg.output, hg.size, fun k hk => hg.block k (by omega) (fun e => by have := hr k e.symm; omega)⟩
/-- The map is told of a new group. -/
theorem AO.map (hB : X.B ≤ X.w.heap.size) (h : AO X gs v D vi ids w2 vo o W) {D' : DataW Unit} (hm : W'.ownsMap Tryd.prog 9 (plainElem (H := Unit) Tryd.prog 3) X.b (gs.length + 1) D') (hg : W.grownBy W' (some X.b)) : AN X gs v D' vi ids vo o W' where
  box := blk_grown h.tb.box hg (by intro e; injection e with e; exact map_ne_blk h.tb.map h.tb.box e)
  row := Kd.R_mono (R_map h.tb.map h.tb.row hg) (fun k hk => hk.1)
  map := hm
  iv := R_map h.tb.map h.iv hg
  fr := h.fr.map h.tb.hb hg
  ov := Kd.R_lower (R_map h.tb.map h.ov hg) h.z2
  hg := h.tb.hg
  hb := h.tb.hb
  tab := h.tb.tab.on (bel_of_grown hg h.fr.zz (fun k e => by injection e with e; have := h.tb.hb; omega))
theorem AN.below (h : AN X gs v D vi ids vo o W) (hb : Below W.heap.size W W') : AN X gs v D vi ids vo o W' :=
  ⟨blk_below h.box hb, Kd.R_below h.row hb, h.map.kept (grown_of_below hb none) (by simp), Kd.R_below h.iv hb, h.fr.below hb, Kd.R_below h.ov hb, h.hg, h.hb, h.tab.on (hb.mono h.fr.zz)⟩
/-- The row of groups has grown. -/
theorem AN.grown (ht : X.t ≠ 93) (h : AN X gs v D vi ids vo o W) {v' : Value} (_hr : Kd.R kFam 93 W' X.B (fun k => True ∧ some k ≠ vi.ownBlock) v' (famsFrom 0 (gs ++ [o]))) (hg : W.grownBy W' v.ownBlock) :
    W'.heap[X.g]? = some (.cells (v :: .map (some X.b) :: .int .i64 (manyOf gs) :: X.rest).toArray X.t (0, 0)) := blk_grown h.box hg (Kd.R_ne h.row h.box (Ne.symm ht))
theorem AN.put (ht : TabTy X.t) (h : AN X gs v D vi ids vo o W) {v' : Value} (hr : Kd.R kFam 93 W' X.B (fun k => True ∧ some k ≠ vi.ownBlock) v' (famsFrom 0 (gs ++ [o]))) (hg : W.grownBy W' v.ownBlock) : AQ X (gs ++ [o]) v' (manyOf gs) D vi ids (W'.setCell ⟨X.g, 0, none⟩ v') := by
  have bx := h.grown (by rcases ht with h | h <;> rw [h] <;> decide) hr hg
  have bel := bel_of_grown hg h.fr.zz (own_base' h.row)
  have iv' := grown_types h.row hg h.iv (by decide)
  have hq : ∀ q, q ∈ 93 :: kFam.E → q ≠ X.t := by rcases ht with h | h <;> rw [h] <;> decide
  have hq2 : ∀ q, q ∈ 3 :: (Kd.int .i64).E → q ≠ X.t := by rcases ht with h | h <;> rw [h] <;> decide
  exact {
    box := by have := blk_set bx 0 v'; simpa using this
    row := Kd.R_set hr bx hq 0 v'
    map := by
      have m1 := h.map.kept hg (map_ne h.map h.row)
      have m2 := m1.kept (w' := W'.setCell ⟨X.g, 0, none⟩ v') (row := some X.g) ⟨rfl, rfl, rfl, by simp, fun i _ hi => Below.heap_setCell W' ⟨X.g, 0, none⟩ v' i (by rintro rfl; exact hi rfl)⟩ (by intro e; injection e with e; exact map_ne_blk m1 bx e.symm)
      rw [List.length_append]
      exact m2
    iv := Kd.R_set iv' bx hq2 0 v'
    fr := (h.fr.fams h.row hg).store h.hg 0 v'
    hg := h.hg
    hb := h.hb
    tab := h.tab.on (bel.trans ((Below.refl _ _).setCell h.hg v')) }
/-- How many types there are is told. -/
theorem AQ.set2 (ht : TabTy X.t) (h : AQ X gs v m D vi ids W) (m' : Int) : AQ X gs v m' D vi ids (W.setCell ⟨X.g, 2, none⟩ (.int .i64 m')) := by
  have hq : ∀ q, q ∈ 93 :: kFam.E → q ≠ X.t := by rcases ht with h | h <;> rw [h] <;> decide
  have hq2 : ∀ q, q ∈ 3 :: (Kd.int .i64).E → q ≠ X.t := by rcases ht with h | h <;> rw [h] <;> decide
  exact {
    box := by have := blk_set h.box 2 (.int .i64 m'); simpa using this
    row := Kd.R_set h.row h.box hq 2 _
    map := h.map.kept (row := some X.g) ⟨rfl, rfl, rfl, by simp, fun i _ hi => Below.heap_setCell W ⟨X.g, 2, none⟩ _ i (by rintro rfl; exact hi rfl)⟩ (by intro e; injection e with e; exact map_ne_blk h.map h.box e.symm)
    iv := Kd.R_set h.iv h.box hq2 2 _
    fr := h.fr.store h.hg 2 _
    hg := h.hg
    hb := h.hb
    tab := h.tab.on ((Below.refl _ _).setCell h.hg _) }
theorem AQ.ai (h : AQ X gs v (manyOf gs) D vi ids W) (pm : PM gs D) : AI X gs v D vi ids W := ⟨⟨h.box, h.row, h.map, pm, h.hg, h.hb, h.tab⟩, h.iv, h.fr⟩
end
end Go.Proofs.YtfgglniigeagdaaDoor.Cn
/- Adding groups: what each step of the walk reads. -/
namespace Go.Proofs.YtfgglniigeagdaaDoor.Cn
open Go.RowKit Go.Maps Go.Proofs.YtfgglniigeagdaaDoorW.PrintWords Go.Proofs.YtfgglniigeagdaaDoorW.PrintLast Go.Proofs.YtfgglniigeagdaaDoor.QD
theorem zeroInt (w : World) : (zeroValue 3).run Tryd.prog w = .ok (.int .i64 0) w := by kernel_rfl
theorem tab_mono {B B' : Nat} {w : World} {name : String} {q : IntKind} {zs : List Int} (h : Lib.TabBelow Tryd.prog B w name q zs) (hB : B ≤ B') : Lib.TabBelow Tryd.prog B' w name q zs := fun w' hb => h w' (hb.mono hB)
theorem cells3 {W : World} {g : Nat} {a b c : Value} {rest : List Value} {t : TypeId} (h : W.heap[g]? = some (.cells (a :: b :: c :: rest).toArray t (0, 0))) : W.cell? ⟨g, 0, none⟩ = some a ∧ W.cell? ⟨g, 1, none⟩ = some b ∧ W.cell? ⟨g, 2, none⟩ = some c :=
  ⟨(blk_cell h 0).trans (by simp), (blk_cell h 1).trans (by simp), (blk_cell h 2).trans (by simp)⟩
theorem at_fam {W : World} {A : Option Addr} {n : Nat} {l : List (Int × List S53)} (h : Kd.C kFam W A n l) (p : Nat) (x : Int × List S53) (hx : l[p]? = some x) (hn : n = l.length) : ∃ ad, A = some ad ∧ W.cell? (ad.add (p * 2)) = some (.int .i64 x.1) := by
  have hp : p < l.length := (List.getElem?_eq_some_iff.1 hx).1
  obtain ⟨ad, c, e, _, hK, hc⟩ := Kd.C_get h ((0 : Int), ([] : List S53)) (p : Int) (by omega) (by omega)
  have e1 : l.getD (p : Int).toNat ((0 : Int), ([] : List S53)) = x := by simp [List.getD_eq_getElem?_getD, hx]
  rw [e1] at hK
  obtain ⟨c0, c1, hcs, h0, h1⟩ := hK
  refine ⟨ad, e, ?_⟩
  have h0' : c0 = [.int .i64 x.1] := h0
  subst hcs
  subst h0'
  exact hc 0 _ rfl
/-- What is known of a state that adding has reached. -/
structure AB2 (n0 : Int) (k : Nat) (st : List (List S53) × List Int) : Prop where
  many : manyOf st.1 ≤ n0 + k
  len : st.2.length = k
  ids : ∀ i ∈ st.2, 0 ≤ i ∧ i < n0 + k
theorem AB2.start (gs : List (List S53)) : AB2 (manyOf gs) 0 (gs, []) := ⟨by show manyOf gs ≤ manyOf gs + ((0 : Nat) : Int); omega, rfl, fun i hi => by cases hi⟩
theorem AB2.step {n0 : Int} {k m : Nat} {gs gs' : List (List S53)} {ids : List Int} (h : AB2 n0 k (gs, ids)) {f : Int} (h0 : 0 ≤ f) (h1 : f + m ≤ n0 + k + m) (hm : manyOf gs' ≤ n0 + (k + m : Nat)) : AB2 n0 (k + m) (gs', ids ++ idsFrom f m) := by
  refine ⟨hm, ?_, ?_⟩
  · have := h.len; simp only [List.length_append, idsFrom_length] at *; omega
  · intro i hi
    rcases List.mem_append.1 hi with hi | hi
    · have := h.ids i hi; omega
    · simp only [idsFrom, List.mem_map, List.mem_range] at hi
      obtain ⟨q, hq, rfl⟩ := hi
      omega
/-- What adding answers, and what it leaves. -/
def AddOut (X : AX) (st : Option (List (List S53) × List Int)) (e : Ending) (w' : World) : Prop :=
  match st with
  | some (gs, ids) => ∃ v D vi, e = .returned (.tuple #[vi, .int .i64 (-1)]) ∧ AI X gs v D vi ids w'
  | none => ∃ (n : Nat) (gs : _) (v : Value) (D : DataW Unit), e = .returned (.tuple #[.slice none 0 0, .int .i64 n]) ∧ TB X.B X.g X.t X.rest (fun _ => True) gs v X.b D w' ∧ FrA X.B X.g X.b X.w w'
end Go.Proofs.YtfgglniigeagdaaDoor.Cn
