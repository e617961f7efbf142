/- Parts of the proof of vctlOpens_holds (11 of 22): what it says and shows stands at its declarations. -/
import Derived.Test.YtohlmkcgempdlaaGreatDoorZO10
import Derived.WalkLawsBesides
import Derived.WalkSpells
import Derived.Deep.RegionHeld3
import Derived.Outline
import Derived.Maps.OwnSet
import Derived.Maps.OwnOps
import Derived.Maps.Views
import Derived.StringKeys
import Derived.Carry
import Derived.LoopTactic
import Derived.Laws.EntriesVeiled
namespace Go.Proofs.YtohlmkcgempdlaaGreatDoor.Cn
open Go.RowKit Go.Proofs.YtohlmkcgempdlaaGreatDoorW.PrintWords Go.Proofs.YtohlmkcgempdlaaGreatDoorW.PrintLast Go.Proofs.YtohlmkcgempdlaaGreatDoor.QD
structure SOk (Q : Int → Prop) (x : S123) : Prop where
 q1 : ∀ h ∈ x.f1, Q h
 q2 : ∀ v ∈ x.f2.f1, v.f0 = 5 → Q v.f2
 q3 : ∀ v ∈ x.f2.f2, v.f0 = 5 → Q v.f2
 q4 : ∀ v ∈ x.f2.f3, v.f0.f0 = 5 → Q v.f0.f2
 l1 : x.f1.length * 8 ≤ 140737488351232
 l2 : x.f2.f1.length * 24 ≤ 140737488351232
 l3 : x.f2.f2.length * 24 ≤ 140737488351232
 l4 : x.f2.f3.length * 32 ≤ 140737488351232
def tsub {σ : Type} (f : σ → Int → σ × Int) (s : σ) (x : S123) : σ × S123 :=
 ((Aa4 (Ah3 f) (Aa4 (tval f) (Aa4 (tval f) (Aa4 f s x.f1).1 x.f2.f1).1 x.f2.f2).1 x.f2.f3).1,
  ⟨x.f0, (Aa4 f s x.f1).2, ⟨x.f2.f0, (Aa4 (tval f) (Aa4 f s x.f1).1 x.f2.f1).2, (Aa4 (tval f) (Aa4 (tval f) (Aa4 f s x.f1).1 x.f2.f1).1 x.f2.f2).2, (Aa4 (Ah3 f) (Aa4 (tval f) (Aa4 (tval f) (Aa4 f s x.f1).1 x.f2.f1).1 x.f2.f2).1 x.f2.f3).2⟩⟩)
def msub {σ : Type} (f : σ → Int → σ × Int) (s : σ) (x : S123) : σ × S123 :=
 ((Aa4 (Ai3 f) (Aa4 (mval f) (Aa4 (mval f) (Aa4 f s x.f1).1 x.f2.f1).1 x.f2.f2).1 x.f2.f3).1,
  ⟨x.f0, (Aa4 f s x.f1).2, ⟨x.f2.f0, (Aa4 (mval f) (Aa4 f s x.f1).1 x.f2.f1).2, (Aa4 (mval f) (Aa4 (mval f) (Aa4 f s x.f1).1 x.f2.f1).1 x.f2.f2).2, (Aa4 (Ai3 f) (Aa4 (mval f) (Aa4 (mval f) (Aa4 f s x.f1).1 x.f2.f1).1 x.f2.f2).1 x.f2.f3).2⟩⟩)
theorem Br0 {w : World} {B : Nat} {b : Bool} {n : Int} {v1 v2 v3 v4 : Value} {l1 : List Int} {l2 l3 : List S39} {l4 : List S172} (h1 : Kd.R (Kd.int .i64) 3 w B (fun _ => True) v1 l1) (h2 : Kd.R k39 39 w B (fun _ => True) v2 l2) (h3 : Kd.R k39 39 w B (fun _ => True) v3 l3) (h4 : Kd.R k172 172 w B (fun _ => True) v4 l4) :
  k123.M w B (fun _ => True) ⟨b, l1, ⟨n, l2, l3, l4⟩⟩ [.bool b, v1, .int .i64 n, v2, v3, v4] :=
 ⟨[.bool b], [v1, .int .i64 n, v2, v3, v4], rfl, rfl, ⟨[v1], [.int .i64 n, v2, v3, v4], rfl, ⟨v1, rfl, h1⟩, ⟨[.int .i64 n], [v2, v3, v4], rfl, rfl, ⟨[v2], [v3, v4], rfl, ⟨v2, rfl, h2⟩, ⟨[v3], [v4], rfl, ⟨v3, rfl, h3⟩, ⟨v4, rfl, h4⟩⟩⟩⟩⟩⟩
end Go.Proofs.YtohlmkcgempdlaaGreatDoor.Cn
namespace Go.Proofs.YtohlmkcgempdlaaGreatDoor.Cn
open Go.RowKit Go.Proofs.YtohlmkcgempdlaaGreatDoorW.PrintWords Go.Proofs.YtohlmkcgempdlaaGreatDoorW.PrintLast Go.Proofs.YtohlmkcgempdlaaGreatDoor.QD
def Ac6 (ids : List Int) (h : Int) : Int := if h < 0 then h else if h < ids.length then rd ids h else -100 - (h - ids.length)
def Bh5 (h : Int) : Prop := -1000000000000 ≤ h ∧ h ≤ 1000000000000
theorem Bw4 (args : Array Value) (w : World) : (callFunc 184 args).run Tryz.prog w = .ok (.enter 184 args) w := Am6 Tryz.func184 (by kernel_rfl) rfl args w
set_option maxRecDepth 100000 in
theorem Bk8 (ids : List Int) (h : Int) (g : Nat) (A : Option Addr) (c : Nat) (w : World) (hg : w.cell? ⟨g, 0, none⟩ = some (.slice A ids.length c)) (hr : Kd.C (Kd.int .i64) w A ids.length ids) (hq : Bh5 h) :
  Calls Tryz.prog 184 #[.int .i64 h, .pointer (some ⟨g, 0, none⟩)] w fun e w' => e = .returned (.int .i64 (Ac6 ids h)) ∧ w' = w := by
 obtain ⟨q1, q2⟩ := hq
 have hm := hr.2.1
 by_cases h0 : h < 0
 ·have e : Ac6 ids h = h := by simp [Ac6, h0]
  rw [e]
  go_enter Tryz.func184, Tryz.ntmps184
  go_wp2_with fail
  go_ret
  exact ⟨rfl, rfl⟩
 ·by_cases h1 : h < ids.length
  ·have e : Ac6 ids h = rd ids h := by simp [Ac6, h0, h1]
   rw [e]
   obtain ⟨ad, rfl, hx⟩ := Kd.Au2 hr h (by omega) h1
   have p : 0 ≤ h := by omega
   clear h0
   go_enter Tryz.func184, Tryz.ntmps184
   go_wp2_with fail
   go_ret
   exact ⟨rfl, rfl⟩
  ·have e : Ac6 ids h = -100 - (h - ids.length) := by simp [Ac6, h0, h1]
   rw [e]
   have p : 0 ≤ h := by omega
   have p1 : (ids.length : Int) ≤ h := by omega
   clear h0 h1
   go_enter Tryz.func184, Tryz.ntmps184
   go_wp2_with fail
   go_ret
   exact ⟨rfl, rfl⟩
set_option maxRecDepth 100000 in
theorem Bn8 (ids : List Int) (A : Option Addr) (c : Nat) (w : World) (hr : Kd.C (Kd.int .i64) w A ids.length ids) :
  Calls Tryz.prog 175 #[.slice A ids.length c] w fun e w' => ∃ fv, e = .returned fv ∧ Below w.heap.size w w' ∧ Cb w'.heap.size none Bh5 (fun (_ : Unit) w1 => Below w'.heap.size w' w1) (fun s h => (s, Ac6 ids h)) fv := by
 go_enter Tryz.func175, Tryz.ntmps175
 go_wp2_with fail
 go_ret
 refine ⟨_, rfl, bz_, ?_⟩
 refine Cb.pure Bw4 fun h w1 hb hq => ?_
 have hc : w1.cell? ⟨w.heap.size, 0, none⟩ = some (.slice A ids.length c) := (hb.cell (p := ⟨w.heap.size, 0, none⟩) (by simp)).trans (by simp)
 have hr1 := Kd.Ab1 (Kd.C_alloc hr _) hb
 exact (Bk8 ids h w.heap.size A c w1 hc hr1 hq).mono fun e w' ⟨he, hw⟩ => ⟨he, by subst hw; exact Below.refl _ _⟩
end Go.Proofs.YtohlmkcgempdlaaGreatDoor.Cn
namespace Go.Proofs.YtohlmkcgempdlaaGreatDoor.Cn
open Go.RowKit Go.Maps Go.Proofs.YtohlmkcgempdlaaGreatDoorW.PrintWords Go.Proofs.YtohlmkcgempdlaaGreatDoorW.PrintLast Go.Proofs.YtohlmkcgempdlaaGreatDoor.QD
def kFam : Kd (Int × List S123) := Kd.pair (Kd.int .i64) (Kd.slice 123 k123)
theorem Cj8 : (Tryz.prog.info? 244).map (fun i => (i.zero, i.size, i.bytes)) = some (some (.agg #[.int .i64 0, .slice none 0 0]), 2, 32) := by kernel_rfl
theorem Cj7 : (Tryz.prog.info? 123).map (fun i => (i.zero, i.size, i.bytes)) = some (some (.agg #[.bool false, .slice none 0 0, .int .i64 0, .slice none 0 0, .slice none 0 0, .slice none 0 0]), 6, 112) := by kernel_rfl
def Ab2 (gs : List (List S123)) : Int := ((gs.map List.length).sum : Nat)
def Ad6 : Int → List (List S123) → List (Int × List S123)
 | _, [] => []
 | n, g :: gs => (n, g) :: Ad6 (n + g.length) gs
theorem Ak0 (gs : List (List S123)) (g : List S123) : Ab2 (gs ++ [g]) = Ab2 gs + g.length := by simp [Ab2]
theorem Aw3 (n : Int) (gs : List (List S123)) (g : List S123) : Ad6 n (gs ++ [g]) = Ad6 n gs ++ [(n + Ab2 gs, g)] := by
 induction gs generalizing n with
 | nil => simp [Ad6, Ab2]
 | cons h gs ih =>
  simp only [List.cons_append, Ad6, ih]
  have e : n + Ab2 (h :: gs) = n + h.length + Ab2 gs := by simp [Ab2]; omega
  rw [e]
theorem Ag2 (n : Int) (gs : List (List S123)) : (Ad6 n gs).length = gs.length := by
 induction gs generalizing n with
 | nil => rfl
 | cons h gs ih => simp [Ad6, ih]
def Ab8 (gs : List (List S123)) (i : Nat) : Int := Ab2 (gs.take i)
theorem Ar7 (n : Int) (gs : List (List S123)) (i : Nat) (g : List S123) (h : gs[i]? = some g) : (Ad6 n gs)[i]? = some (n + Ab8 gs i, g) := by
 induction gs generalizing n i with
 | nil => simp at h
 | cons x gs ih =>
  cases i with
  | zero => simp at h; subst h; simp [Ad6, Ab8, Ab2]
  | succ i =>
   simp only [Ad6, List.getElem?_cons_succ] at h ⊢
   rw [ih _ i h]
   have e : Ab8 (x :: gs) (i + 1) = x.length + Ab8 gs i := by simp [Ab8, Ab2]
   rw [e]
   congr 2
   omega
structure PM (gs : List (List S123)) (D : DataW Unit) : Prop where
 isMap : IsMap D
 hit : ∀ (i : Nat) (g : List S123), gs[i]? = some g → has D (.string (keyT g)) = true ∧ ∀ z, D.atKey (.string (keyT g)) z = .lit (.int .i64 i)
 miss : ∀ bs, (∀ g ∈ gs, keyT g ≠ bs) → has D (.string bs) = false
theorem PM.nil : PM [] (.map []) := ⟨isMap_empty, fun i g h => by simp at h, fun bs _ => rfl⟩
theorem PM.snoc {gs : List (List S123)} {D : DataW Unit} (h : PM gs D) {g : List S123} (hn : ∀ x ∈ gs, keyT x ≠ keyT g) : PM (gs ++ [g]) (D.put (.string (keyT g)) (.lit (.int .i64 gs.length))) := by
 refine ⟨h.isMap.put _ _, fun i x hx => ?_, fun bs hb => ?_⟩
 ·rcases Nat.lt_or_ge i gs.length with hi | hi
  ·rw [List.getElem?_append_left hi] at hx
   have hne : (Lit.string (keyT x)) ≠ .string (keyT g) := fun e => hn x (List.mem_of_getElem? hx) (by injection e)
   refine ⟨?_, fun z => ?_⟩
   ·rw [has_put_other hne]; exact (h.hit i x hx).1
   ·rw [atKey_put_other hne]; exact (h.hit i x hx).2 z
  ·rw [List.getElem?_append_right hi] at hx
   have hi0 : i = gs.length := by
    have := (List.getElem?_eq_some_iff.1 hx).1
    simp at this
    omega
   subst hi0
   simp at hx
   subst hx
   exact ⟨has_put_same h.isMap (by trivial) _, fun z => atKey_put_same h.isMap (by trivial) _ z⟩
 ·have hne : (Lit.string bs) ≠ .string (keyT g) := fun e => hb g (by simp) (by injection e with e; exact e.symm)
  rw [has_put_other hne]
  exact h.miss bs (fun x hx => hb x (by simp [hx]))
end Go.Proofs.YtohlmkcgempdlaaGreatDoor.Cn
namespace Go.Proofs.YtohlmkcgempdlaaGreatDoor.Cn
open Go.RowKit Go.Maps Go.Proofs.YtohlmkcgempdlaaGreatDoorW.PrintWords Go.Proofs.YtohlmkcgempdlaaGreatDoorW.PrintLast Go.Proofs.YtohlmkcgempdlaaGreatDoor.QD
theorem Aj1 : Keyed Tryz.prog 9 := string_keyed Tryz.underlying9
structure TB (B g : Nat) (t : TypeId) (rest : List Value) (ok : Nat → Prop) (gs : List (List S123)) (v : Value) (b : Nat) (D : DataW Unit) (W : World) : Prop where
 box : W.heap[g]? = some (.cells (v :: .map (some b) :: .int .i64 (Ab2 gs) :: rest).toArray t (0, 0))
 row : Kd.R kFam 244 W B ok v (Ad6 0 gs)
 map : W.ownsMap Tryz.prog 9 (plainElem (H := Unit) Tryz.prog 3) b gs.length D
 pm : PM gs D
 hg : B ≤ g
 hb : B ≤ b
 tab : Lib.TabBelow Tryz.prog B W "internal/strconv.uint64pow10" .u64 Lib.pow10Tab
def TabTy (t : TypeId) : Prop := t = 228 ∨ t = 226
section
variable {B g b : Nat} {t : TypeId} {rest : List Value} {ok : Nat → Prop} {gs : List (List S123)} {v : Value} {D : DataW Unit} {W W' : World}
theorem map_ne {α : Type} {d : Kd α} {e : Nat} {ok' : Nat → Prop} {u : Value} {l : List α} {B' n : Nat} (hm : W.ownsMap Tryz.prog 9 (plainElem (H := Unit) Tryz.prog 3) b n D) (hr : Kd.R d e W B' ok' u l) : some b ≠ u.ownBlock := by
 intro e0
 obtain ⟨es, clock, hb, _⟩ := hm
 obtain ⟨_, inner, ho, _⟩ := hr
 obtain ⟨cells, hc⟩ := Aj2 ho b e0.symm
 rw [hb] at hc
 simp at hc
theorem As3 {n k : Nat} {cs : Array Value} {t : TypeId} (hm : W.ownsMap Tryz.prog 9 (plainElem (H := Unit) Tryz.prog 3) b n D) (hk : W.heap[k]? = some (.cells cs t (0, 0))) : k ≠ b := by
 rintro rfl
 obtain ⟨es, clock, hb, _⟩ := hm
 rw [hb] at hk
 simp at hk
theorem R_map {α : Type} {d : Kd α} {e : Nat} {ok' : Nat → Prop} {u : Value} {l : List α} {B' n : Nat} (hm : W.ownsMap Tryz.prog 9 (plainElem (H := Unit) Tryz.prog 3) b n D) (hr : Kd.R d e W B' ok' u l) (hg : W.grownBy W' (some b)) : Kd.R d e W' B' ok' u l := by
 refine Kd.Af7 (Kd.Au8 (Kd.Af6 hr) hg (fun k hk e => ?_)) (fun k hk => hk.1)
 obtain ⟨_, _, _, q, _, cells, hc⟩ := hk
 injection e with e
 subst e
 exact As3 hm hc rfl
theorem Cm5 {α β : Type} {d : Kd α} {d' : Kd β} {e e' : Nat} {ok1 ok2 : Nat → Prop} {u w : Value} {m : List α} {l : List β} {B1 B2 : Nat} (hr : Kd.R d' e' W B2 ok2 w l) (hu : Kd.R d e W B1 ok1 u m) (hq : ∀ q, q ∈ e :: d.E → q ≠ e') : Kd.R d e W B1 (fun k => ok1 k ∧ some k ≠ w.ownBlock) u m := by
 refine Kd.Af7 (Kd.Af6 hu) (fun k hk => ⟨hk.1, fun e => ?_⟩)
 obtain ⟨_, inner, ho, _⟩ := hr
 obtain ⟨cells, hc⟩ := Aj2 ho k e.symm
 obtain ⟨_, _, _, q, hq1, cells', hc'⟩ := hk
 rw [hc] at hc'
 injection hc' with hc'
 injection hc' with _ hc'
 exact hq q hq1 hc'.symm
theorem TB.below (h : TB B g t rest ok gs v b D W) (hb : Below W.heap.size W W') (hz : B ≤ W.heap.size) : TB B g t rest ok gs v b D W' :=
 ⟨Aa3 h.box hb, Kd.Ac5 h.row hb, h.map.kept (Ak5 hb none) (by simp), h.pm, h.hg, h.hb, h.tab.on (hb.mono hz)⟩
theorem TB.grown (h : TB B g t rest ok gs v b D W) {α : Type} {d : Kd α} {e B' : Nat} {ok' : Nat → Prop} {u : Value} {l : List α} (hr : Kd.R d e W B' ok' u l) (hB' : B ≤ B') (he : e ≠ t) (hg : W.grownBy W' u.ownBlock) (hok : ∀ k, ok k → some k ≠ u.ownBlock) : TB B g t rest ok gs v b D W' := by
 have hbel : Below B W W' := ⟨hg.os, hg.tape, hg.output, hg.size, fun i hi => hg.block i (by have := Ac0 h.box; have := h.hg; omega) (fun e0 => by have := Ag5 hr i e0.symm; omega)⟩
 exact ⟨Ab5 h.box hg (Kd.R_ne hr h.box he), Kd.Au8 h.row hg hok, h.map.kept hg (map_ne h.map hr), h.pm, h.hg, h.hb, h.tab.on hbel⟩
theorem TB.weak (h : TB B g t rest ok gs v b D W) {ok' : Nat → Prop} (hk : ∀ k, ok k → ok' k) : TB B g t rest ok' gs v b D W := ⟨h.box, Kd.Af7 h.row hk, h.map, h.pm, h.hg, h.hb, h.tab⟩
end
structure FrA (B g b : Nat) (w0 W : World) : Prop where
 bel : Below B w0 W
 oth : ∀ (k : Nat) (o : Obj), w0.heap[k]? = some o → k ≠ g → k ≠ b → (∀ c fz, o ≠ .cells c 244 fz) → W.heap[k]? = some o
 z : B ≤ w0.heap.size
section
variable {B g b : Nat} {w0 W W' : World}
theorem FrA.refl (h : B ≤ w0.heap.size) : FrA B g b w0 w0 := ⟨Below.refl _ _, fun _ _ h _ _ _ => h, h⟩
theorem FrA.zz (h : FrA B g b w0 W) : B ≤ W.heap.size := Nat.le_trans h.z h.bel.size
theorem FrA.below (h : FrA B g b w0 W) (hb : Below W.heap.size W W') : FrA B g b w0 W' :=
 ⟨h.bel.trans (hb.mono h.zz), fun k o hk h1 h2 h3 => by
  have e := h.oth k o hk h1 h2 h3
  exact (hb.block k (Array.getElem?_eq_some_iff.1 e).1).trans e, h.z⟩
theorem FrA.own (h : FrA B g b w0 W) {α : Type} {d : Kd α} {e : Nat} {ok : Nat → Prop} {u : Value} {l : List α} (hr : Kd.R d e W w0.heap.size ok u l) (hg : W.grownBy W' u.ownBlock) : FrA B g b w0 W' := by
 have hn : ∀ k, k < w0.heap.size → some k ≠ u.ownBlock := fun k hk e0 => by have := Ag5 hr k e0.symm; omega
 refine ⟨⟨hg.os.trans h.bel.os, hg.tape.trans h.bel.tape, hg.output.trans h.bel.output, Nat.le_trans h.bel.size hg.size, fun k hk => (hg.block k (by have := h.bel.size; have := h.z; omega) (hn k (by have := h.z; omega))).trans (h.bel.block k hk)⟩, fun k o hk h1 h2 h3 => ?_, h.z⟩
 have e := h.oth k o hk h1 h2 h3
 exact (hg.block k (Array.getElem?_eq_some_iff.1 e).1 (hn k (Array.getElem?_eq_some_iff.1 hk).1)).trans e
theorem FrA.map (h : FrA B g b w0 W) (hb : B ≤ b) (hg : W.grownBy W' (some b)) : FrA B g b w0 W' := by
 refine ⟨⟨hg.os.trans h.bel.os, hg.tape.trans h.bel.tape, hg.output.trans h.bel.output, Nat.le_trans h.bel.size hg.size, fun k hk => (hg.block k (by have := h.bel.size; have := h.z; omega) (by intro e; injection e; omega)).trans (h.bel.block k hk)⟩, fun k o hk h1 h2 h3 => ?_, h.z⟩
 have e := h.oth k o hk h1 h2 h3
 exact (hg.block k (Array.getElem?_eq_some_iff.1 e).1 (by intro e0; injection e0 with e0; exact h2 e0)).trans e
theorem FrA.fams (h : FrA B g b w0 W) {ok : Nat → Prop} {u : Value} {l : List (Int × List S123)} (hr : Kd.R kFam 244 W B ok u l) (hg : W.grownBy W' u.ownBlock) : FrA B g b w0 W' := by
 have hn : ∀ k, k < B → some k ≠ u.ownBlock := fun k hk e0 => by have := Ag5 hr k e0.symm; omega
 refine ⟨⟨hg.os.trans h.bel.os, hg.tape.trans h.bel.tape, hg.output.trans h.bel.output, Nat.le_trans h.bel.size hg.size, fun k hk => (hg.block k (by have := h.bel.size; have := h.z; omega) (hn k hk)).trans (h.bel.block k hk)⟩, fun k o hk h1 h2 h3 => ?_, h.z⟩
 have e := h.oth k o hk h1 h2 h3
 refine (hg.block k (Array.getElem?_eq_some_iff.1 e).1 (fun e0 => ?_)).trans e
 obtain ⟨_, inner, ho, _⟩ := hr
 obtain ⟨cells, hc⟩ := Aj2 ho k e0.symm
 rw [e] at hc
 injection hc with hc
 exact h3 _ _ hc
theorem FrA.store (h : FrA B g b w0 W) (hg : B ≤ g) (i : Nat) (u : Value) : FrA B g b w0 (W.setCell ⟨g, i, none⟩ u) :=
 ⟨h.bel.trans ((Below.refl _ _).setCell hg u), fun k o hk h1 h2 h3 => (Below.heap_setCell W ⟨g, i, none⟩ u k h1).trans (h.oth k o hk h1 h2 h3), h.z⟩
end
end Go.Proofs.YtohlmkcgempdlaaGreatDoor.Cn
namespace Go.Proofs.YtohlmkcgempdlaaGreatDoor.Cn
open Go.RowKit Go.Maps Go.Proofs.YtohlmkcgempdlaaGreatDoorW.PrintWords Go.Proofs.YtohlmkcgempdlaaGreatDoorW.PrintLast Go.Proofs.YtohlmkcgempdlaaGreatDoor.QD
def Ah6 (ids : List Int) (s : S123) : S123 := (msub (fun (u : Unit) h => (u, Ac6 ids h)) () s).2
def ownG (ids : List Int) (r : S132) : List S123 := r.f0.map (Ah6 ids)
def Ak9 (gs : List (List S123)) (o : List S123) : Option Nat := gs.findIdx? (fun x => keyT x == keyT o)
def Ac8 (n : Int) (k : Nat) : List Int := (List.range k).map fun (i : Nat) => n + (i : Int)
theorem Ar5 (n : Int) (k : Nat) : Ac8 n (k + 1) = Ac8 n k ++ [n + k] := by simp [Ac8, List.range_succ]
theorem Ac4 (n : Int) (k : Nat) : (Ac8 n k).length = k := by simp [Ac8]
def Ad4 (most : Int) (st : List (List S123) × List Int) (r : S132) : Option (List (List S123) × List Int) :=
 match Ak9 st.1 (ownG st.2 r) with
 | some i => some (st.1, st.2 ++ Ac8 (Ab8 st.1 i) (ownG st.2 r).length)
 | none => if Ab2 st.1 + (ownG st.2 r).length > most then none else some (st.1 ++ [ownG st.2 r], st.2 ++ Ac8 (Ab2 st.1) (ownG st.2 r).length)
def Ae1 (most : Int) (st : List (List S123) × List Int) : List S132 → Option (List (List S123) × List Int)
 | [] => some st
 | r :: l => (Ad4 most st r).bind fun st' => Ae1 most st' l
theorem Ce4 (most : Int) (st : List (List S123) × List Int) (l : List S132) (r : S132) : Ae1 most st (l ++ [r]) = (Ae1 most st l).bind fun st' => Ad4 most st' r := by
 induction l generalizing st with
 | nil => simp [Ae1]
 | cons x l ih =>
  simp only [List.cons_append, Ae1]
  cases Ad4 most st x with
  | none => rfl
  | some st' => simp [ih]
theorem Ao6 (most : Int) (st : List (List S123) × List Int) (l : List S132) (j : Nat) (r : S132) (h : l[j]? = some r) : Ae1 most st (l.take (j + 1)) = (Ae1 most st (l.take j)).bind fun st' => Ad4 most st' r := by
 rw [List.take_add_one, h]
 exact Ce4 most st _ r
theorem Bj6 (most : Int) (st : List (List S123) × List Int) (l : List S132) (j : Nat) (h : Ae1 most st (l.take j) = none) : Ae1 most st l = none := by
 induction l generalizing st j with
 | nil => simp [Ae1] at h
 | cons x l ih =>
  cases j with
  | zero => simp [Ae1] at h
  | succ j =>
   simp only [List.take_succ_cons, Ae1] at h ⊢
   cases hx : Ad4 most st x with
   | none => rfl
   | some st' => rw [hx] at h; exact ih st' j h
theorem Ac1 (ids : List Int) (r : S132) : (ownG ids r).length = r.f0.length := by simp [ownG]
def Aa8 (l : List S132) : Nat := (l.map fun r => r.f0.length).sum
theorem Ab7 (l : List S132) (j : Nat) (r : S132) (h : l[j]? = some r) : Aa8 (l.take j) + r.f0.length ≤ Aa8 l := by
 have e : l = l.take j ++ r :: l.drop (j + 1) := by
  have hl := (List.getElem?_eq_some_iff.1 h)
  obtain ⟨hj, rfl⟩ := hl
  rw [List.getElem_cons_drop, List.take_append_drop]
 have : Aa8 l = Aa8 (l.take j) + (r.f0.length + Aa8 (l.drop (j + 1))) := by
  conv => lhs; rw [e]
  simp [Aa8]
 omega
theorem Ad8 (l : List S132) (j : Nat) (r : S132) (h : l[j]? = some r) : Aa8 (l.take (j + 1)) = Aa8 (l.take j) + r.f0.length := by
 rw [List.take_add_one, h]
 simp [Aa8]
theorem Aj3 (gs : List (List S123)) : 0 ≤ Ab2 gs := by unfold Ab2; omega
theorem As7 (gs : List (List S123)) (i : Nat) (g : List S123) (h : gs[i]? = some g) : 0 ≤ Ab8 gs i ∧ Ab8 gs i + g.length ≤ Ab2 gs := by
 refine ⟨Aj3 _, ?_⟩
 have e : gs = gs.take i ++ g :: gs.drop (i + 1) := by
  obtain ⟨hj, rfl⟩ := (List.getElem?_eq_some_iff.1 h)
  rw [List.getElem_cons_drop, List.take_append_drop]
 have : Ab2 gs = Ab2 (gs.take i) + (g.length + Ab2 (gs.drop (i + 1))) := by
  conv => lhs; rw [e]
  simp [Ab2]
 have := Aj3 (gs.drop (i + 1))
 unfold Ab8
 omega
theorem As8 {gs : List (List S123)} {o : List S123} {i : Nat} (h : Ak9 gs o = some i) : ∃ x, gs[i]? = some x ∧ keyT x = keyT o := by
 unfold Ak9 at h
 rw [List.findIdx?_eq_some_iff_getElem] at h
 obtain ⟨hi, he, _⟩ := h
 exact ⟨gs[i], List.getElem?_eq_getElem hi, by simpa using he⟩
theorem As9 {gs : List (List S123)} {o : List S123} (h : Ak9 gs o = none) : ∀ x ∈ gs, keyT x ≠ keyT o := by
 unfold Ak9 at h
 rw [List.findIdx?_eq_none_iff] at h
 intro x hx
 simpa using h x hx
def LR (S : World → Prop) (A : Option Addr) (l : List S132) : Prop := ∃ hd : Nat → Option Addr × Nat, ∀ (j : Nat) (r : S132), l[j]? = some r → ∃ ad, A = some ad ∧ ∀ W, S W →
 W.cell? (ad.add (j * 2)) = some (.slice (hd j).1 r.f0.length (hd j).2) ∧ W.cell? ⟨(ad.add (j * 2)).block, (ad.add (j * 2)).off + 1, none⟩ = some (.bool r.f1) ∧ r.f0.length ≤ (hd j).2 ∧ Kd.C k123 W (hd j).1 r.f0.length r.f0
theorem LR.of_C {win : World} {A : Option Addr} {l : List S132} (h : Kd.C k132 win A l.length l) {S : World → Prop} (hS : ∀ W, S W → Below win.heap.size win W) : LR S A l := by
 have key : ∀ j : Nat, ∃ p : Option Addr × Nat, ∀ r, l[j]? = some r → ∃ ad, A = some ad ∧ win.cell? (ad.add (j * 2)) = some (.slice p.1 r.f0.length p.2) ∧ win.cell? ⟨(ad.add (j * 2)).block, (ad.add (j * 2)).off + 1, none⟩ = some (.bool r.f1) ∧ r.f0.length ≤ p.2 ∧ Kd.C k123 win p.1 r.f0.length r.f0 := by
  intro j
  rcases Nat.lt_or_ge j l.length with hj | hj
  ·obtain ⟨ad, A0, c0, e, h0, h1, h2, h3⟩ := Aq1 h (j : Int) (by omega) (by omega)
   refine ⟨(A0, c0), fun r hr => ⟨ad, e, ?_⟩⟩
   have e1 : Ad5 l (j : Int) = r := by
    have : l[j]? = some (Ad5 l (j : Int)) := by simp [Ad5, List.getD_eq_getElem?_getD, List.getElem?_eq_getElem hj]
    rw [hr] at this
    injection this with this
    exact this.symm
   rw [e1] at h0 h1 h2 h3
   exact ⟨h0, h1, h2, h3⟩
  ·exact ⟨(none, 0), fun r hr => by rw [List.getElem?_eq_none hj] at hr; cases hr⟩
 obtain ⟨hd, hh⟩ := Classical.axiomOfChoice key
 refine ⟨hd, fun j r hr => ?_⟩
 obtain ⟨ad, e, h0, h1, h2, h3⟩ := hh j r hr
 exact ⟨ad, e, fun W hW => ⟨((hS W hW).cell (World.block_lt_of_cell? win _ h0)).trans h0, ((hS W hW).cell (World.block_lt_of_cell? win _ h1)).trans h1, h2, Kd.Ab1 h3 (hS W hW)⟩⟩
end Go.Proofs.YtohlmkcgempdlaaGreatDoor.Cn
namespace Go.Proofs.YtohlmkcgempdlaaGreatDoor.Cn
open Go.RowKit Go.Maps Go.Proofs.YtohlmkcgempdlaaGreatDoorW.PrintWords Go.Proofs.YtohlmkcgempdlaaGreatDoorW.PrintLast Go.Proofs.YtohlmkcgempdlaaGreatDoor.QD
def mvp (r : Int → Int) (v : S39) : S39 := if v.f0 = 5 then ⟨v.f0, v.f1, r v.f2⟩ else ⟨v.f0, false, 0⟩
def mfp (r : Int → Int) (f : S172) : S172 := ⟨mvp r f.f0, f.f1⟩
theorem Bp6 (r : Int → Int) : mval (fun (u : Unit) h => (u, r h)) = fun (_ : Unit) v => ((), mvp r v) := by
 funext u v
 unfold mval mvp
 split <;> rfl
theorem Bu9 (r : Int → Int) : Ai3 (fun (u : Unit) h => (u, r h)) = fun (_ : Unit) v => ((), mfp r v) := by
 funext u v
 unfold Ai3 mfp
 rw [Bp6]
theorem Ch3 (r : Int → Int) (s : S123) : msub (fun (u : Unit) h => (u, r h)) () s = ((), ⟨s.f0, s.f1.map r, ⟨s.f2.f0, s.f2.f1.map (mvp r), s.f2.f2.map (mvp r), s.f2.f3.map (mfp r)⟩⟩) := by
 unfold msub
 rw [Bp6, Bu9]
 have e : (fun (u : Unit) (h : Int) => (u, r h)) = fun (_ : Unit) h => ((), r h) := by funext u h; rfl
 rw [e]
 simp only [Cd7]
theorem Ba5 (ids : List Int) (s : S123) : Ah6 ids s = ⟨s.f0, s.f1.map (Ac6 ids), ⟨s.f2.f0, s.f2.f1.map (mvp (Ac6 ids)), s.f2.f2.map (mvp (Ac6 ids)), s.f2.f3.map (mfp (Ac6 ids))⟩⟩ := by
 unfold Ah6
 rw [Ch3]
def wS (s : S123) : Nat := s.f1.length + s.f2.f1.length + s.f2.f2.length + s.f2.f3.length + 1
def wG (l : List S123) : Nat := (l.map wS).sum
def wL (l : List S132) : Nat := (l.map fun r => wG r.f0).sum
theorem wS_mroll (ids : List Int) (s : S123) : wS (Ah6 ids s) = wS s := by rw [Ba5]; simp [wS]
theorem Bx7 (ids : List Int) (r : S132) : wG (ownG ids r) = wG r.f0 := by
 unfold wG ownG
 rw [List.map_map]
 congr 1
 apply List.map_congr_left
 intro s _
 exact wS_mroll ids s
theorem Aw8 {α : Type} (f : α → Nat) (l : List α) (x : α) (h : x ∈ l) : f x ≤ (l.map f).sum := by
 induction l with
 | nil => cases h
 | cons y l ih =>
  rcases List.mem_cons.1 h with rfl | h
  ·simp
  ·have := ih h; simp; omega
theorem Ar2 (l : List S123) : l.length ≤ wG l := by
 induction l with
 | nil => simp [wG]
 | cons s l ih => simp only [wG, List.map_cons, List.sum_cons, List.length_cons] at *; have : 1 ≤ wS s := by unfold wS; omega
                  omega
theorem Ab4 (l : List S132) : Aa8 l ≤ wL l := by
 induction l with
 | nil => simp [Aa8, wL]
 | cons r l ih => simp only [Aa8, wL, List.map_cons, List.sum_cons] at *; have := Ar2 r.f0; omega
theorem Ap8 {α : Type} (g : α → List UInt8) (l : List α) (c : Nat) (h : ∀ x ∈ l, (g x).length ≤ c) : (l.flatMap g).length ≤ c * l.length := by
 induction l with
 | nil => simp
 | cons x l ih =>
  have h1 := h x (by simp)
  have h2 := ih (fun y hy => h y (by simp [hy]))
  simp only [List.flatMap_cons, List.length_append, List.length_cons, Nat.mul_add, Nat.mul_one]
  omega
theorem subT_le (s : S123) (h : S64 s) (hl : wS s ≤ 9000000000000000000) : (subT s).length ≤ 250 * wS s := by
 have a := Ap8 numT s.f1 22 (fun x hx => Ax4 x (h.n1 x hx))
 have b := Ap8 valT s.f2.f1 45 (fun x hx => Bs5 x (h.n2 x hx).1 (h.n2 x hx).2)
 have c := Ap8 valT s.f2.f2 45 (fun x hx => Bs5 x (h.n3 x hx).1 (h.n3 x hx).2)
 have d := Ap8 Al1 s.f2.f3 46 (fun x hx => by
  have := Bs5 x.f0 (h.n4 x hx).1 (h.n4 x hx).2
  have := Aw2 x.f1
  simp only [Al1, List.length_append]
  omega)
 have n : ∀ k : Nat, k ≤ wS s → (numT (k : Int)).length ≤ 22 := fun k hk => Ax4 _ ⟨by omega, by omega⟩
 have e1 := n s.f1.length (by unfold wS; omega)
 have e2 := n s.f2.f1.length (by unfold wS; omega)
 have e3 := n s.f2.f2.length (by unfold wS; omega)
 have e4 := n s.f2.f3.length (by unfold wS; omega)
 have e5 := Ax4 s.f2.f0 h.k
 have e6 := Aw2 s.f0
 simp only [subT, List.length_append]
 unfold wS
 omega
theorem keyT_le (l : List S123) (h : ∀ s ∈ l, S64 s) (hl : wG l ≤ 9000000000000000000) : (keyT l).length ≤ 250 * wG l := by
 induction l with
 | nil => simp [keyT, wG]
 | cons s l ih =>
  simp only [wG, List.map_cons, List.sum_cons] at hl ⊢
  have h1 := subT_le s (h s (by simp)) (by omega)
  have h2 := ih (fun x hx => h x (by simp [hx])) (by unfold wG; omega)
  simp only [keyT, List.flatMap_cons, List.length_append, wG] at h2 ⊢
  omega
structure RIn (s : S123) : Prop where
 ok : SOk Bh5 s
 k : N64 s.f2.f0
 n2 : ∀ v ∈ s.f2.f1, N64 v.f0
 n3 : ∀ v ∈ s.f2.f2, N64 v.f0
 n4 : ∀ v ∈ s.f2.f3, N64 v.f0.f0
theorem By0 {ids : List Int} {M : Int} (hi : ∀ i ∈ ids, 0 ≤ i ∧ i < M) (hM : M ≤ 4611686018427387904) (hl : ids.length ≤ 1000000000000) {h : Int} (hq : Bh5 h) : N64 (Ac6 ids h) := by
 obtain ⟨q1, q2⟩ := hq
 unfold Ac6
 split
 ·exact ⟨by omega, by omega⟩
 ·split
  ·rename_i h0 h1
   have hlt : h.toNat < ids.length := by omega
   have : rd ids h = ids[h.toNat] := by simp [rd, List.getD_eq_getElem?_getD, List.getElem?_eq_getElem hlt]
   rw [this]
   have := hi _ (List.getElem_mem hlt)
   exact ⟨by omega, by omega⟩
  ·exact ⟨by omega, by omega⟩
theorem Ch2 {ids : List Int} {M : Int} (hi : ∀ i ∈ ids, 0 ≤ i ∧ i < M) (hM : M ≤ 4611686018427387904) (hl : ids.length ≤ 1000000000000) {v : S39} (h0 : N64 v.f0) (hq : v.f0 = 5 → Bh5 v.f2) : N64 (mvp (Ac6 ids) v).f0 ∧ N64 (mvp (Ac6 ids) v).f2 := by
 unfold mvp
 split
 ·rename_i h5
  exact ⟨h0, By0 hi hM hl (hq h5)⟩
 ·exact ⟨h0, ⟨by show (-9223372036854775808 : Int) ≤ 0; omega, by show (0 : Int) ≤ 9223372036854775807; omega⟩⟩
theorem mroll_64 {ids : List Int} {M : Int} (hi : ∀ i ∈ ids, 0 ≤ i ∧ i < M) (hM : M ≤ 4611686018427387904) (hl : ids.length ≤ 1000000000000) {s : S123} (h : RIn s) : S64 (Ah6 ids s) := by
 rw [Ba5]
 refine ⟨fun x hx => ?_, h.k, fun v hv => ?_, fun v hv => ?_, fun v hv => ?_⟩
 ·obtain ⟨y, hy, rfl⟩ := List.mem_map.1 hx
  exact By0 hi hM hl (h.ok.q1 y hy)
 ·obtain ⟨y, hy, rfl⟩ := List.mem_map.1 hv
  exact Ch2 hi hM hl (h.n2 y hy) (h.ok.q2 y hy)
 ·obtain ⟨y, hy, rfl⟩ := List.mem_map.1 hv
  exact Ch2 hi hM hl (h.n3 y hy) (h.ok.q3 y hy)
 ·obtain ⟨y, hy, rfl⟩ := List.mem_map.1 hv
  exact Ch2 hi hM hl (h.n4 y hy) (h.ok.q4 y hy)
theorem ownG_64 {ids : List Int} {M : Int} (hi : ∀ i ∈ ids, 0 ≤ i ∧ i < M) (hM : M ≤ 4611686018427387904) (hl : ids.length ≤ 1000000000000) {r : S132} (h : ∀ s ∈ r.f0, RIn s) : ∀ s ∈ ownG ids r, S64 s := by
 intro s hs
 obtain ⟨y, hy, rfl⟩ := List.mem_map.1 hs
 exact mroll_64 hi hM hl (h y hy)
end Go.Proofs.YtohlmkcgempdlaaGreatDoor.Cn
namespace Go.Proofs.YtohlmkcgempdlaaGreatDoor.Cn
set_option linter.unusedVariables false
open Go.RowKit Go.Maps Go.Proofs.YtohlmkcgempdlaaGreatDoorW.PrintWords Go.Proofs.YtohlmkcgempdlaaGreatDoorW.PrintLast Go.Proofs.YtohlmkcgempdlaaGreatDoor.QD
structure AX where
 B : Nat
 g : Nat
 t : TypeId
 rest : List Value
 gs0 : List (List S123)
 b : Nat
 l : List S132
 most : Int
 w : World
structure AI (X : AX) (gs : List (List S123)) (v : Value) (D : DataW Unit) (vi : Value) (ids : List Int) (W : World) : Prop where
 tb : TB X.B X.g X.t X.rest (fun k => True ∧ some k ≠ vi.ownBlock) gs v X.b D W
 iv : Kd.R (Kd.int .i64) 3 W X.w.heap.size (fun _ => True) vi ids
 fr : FrA X.B X.g X.b X.w W
structure AO (X : AX) (gs : List (List S123)) (v : Value) (D : DataW Unit) (vi : Value) (ids : List Int) (w2 : World) (vo : Value) (o : List S123) (W : World) : Prop where
 tb : TB X.B X.g X.t X.rest (fun k => (True ∧ some k ≠ vi.ownBlock) ∧ some k ≠ vo.ownBlock) gs v X.b D W
 iv : Kd.R (Kd.int .i64) 3 W X.w.heap.size (fun _ => True) vi ids
 fr : FrA X.B X.g X.b X.w W
 ov : Kd.R k123 123 W w2.heap.size (fun k => True ∧ some k ≠ vi.ownBlock) vo o
 b2 : Below w2.heap.size w2 W
 z2 : X.w.heap.size ≤ w2.heap.size
section
variable {X : AX} {gs : List (List S123)} {v vi vo : Value} {D : DataW Unit} {ids : List Int} {w2 W W' : World} {o : List S123}
theorem AI.below (h : AI X gs v D vi ids W) (hb : Below W.heap.size W W') : AI X gs v D vi ids W' := ⟨h.tb.below hb h.fr.zz, Kd.Ac5 h.iv hb, h.fr.below hb⟩
theorem AI.start (h : AI X gs v D vi ids W) (hz : X.w.heap.size ≤ W.heap.size) : AO X gs v D vi ids W (.slice none 0 0) [] W :=
 ⟨h.tb.weak (fun k hk => ⟨hk, by simp [Value.ownBlock]⟩), h.iv, h.fr, Kd.Aj9 _ _ _ _ _, Below.refl _ _, hz⟩
theorem AO.below (h : AO X gs v D vi ids w2 vo o W) (hb : Below W.heap.size W W') : AO X gs v D vi ids w2 vo o W' :=
 ⟨h.tb.below hb h.fr.zz, Kd.Ac5 h.iv hb, h.fr.below hb, Kd.Ac5 h.ov hb, h.b2.trans (hb.mono h.b2.size), h.z2⟩
theorem AO.app (ht : X.t ≠ 123) (hB : X.B ≤ X.w.heap.size) (h : AO X gs v D vi ids w2 vo o W) {vo' : Value} {o' : List S123} (hr : Kd.R k123 123 W' w2.heap.size (fun k => True ∧ some k ≠ vi.ownBlock) vo' o') (hg : W.grownBy W' vo.ownBlock) (hat : vo'.ownBlock = vo.ownBlock ∨ ∃ b, vo'.ownBlock = some b ∧ W.heap.size ≤ b) : AO X gs v D vi ids w2 vo' o' W' := by
 have tb1 := h.tb.grown h.ov (Nat.le_trans hB h.z2) (Ne.symm ht) hg (fun k hk => hk.2)
 refine ⟨⟨tb1.box, ?_, tb1.map, tb1.pm, tb1.hg, tb1.hb, tb1.tab⟩, Ad9 h.ov hg h.iv (by decide), h.fr.own (Kd.Ak4 h.ov h.z2) hg, hr, ?_, h.z2⟩
 ·exact Kd.Af7 (Kd.Ay0 (ok := fun k => True ∧ some k ≠ vi.ownBlock) h.tb.row hg hat) (fun k hk => hk)
 ·exact ⟨hg.os.trans h.b2.os, hg.tape.trans h.b2.tape, hg.output.trans h.b2.output, Nat.le_trans h.b2.size hg.size, fun k hk => (hg.block k (by have := h.b2.size; omega) (fun e => by have := Ag5 h.ov k e.symm; omega)).trans (h.b2.block k hk)⟩
theorem AO.done (h : AO X gs v D vi ids w2 vo o W) : AI X gs v D vi ids W := ⟨h.tb.weak (fun k hk => hk.1), h.iv, h.fr⟩
theorem AI.app (ht : X.t ≠ 3) (hB : X.B ≤ X.w.heap.size) (h : AI X gs v D vi ids W) {vi' : Value} {ids' : List Int} (hr : Kd.R (Kd.int .i64) 3 W' X.w.heap.size (fun _ => True) vi' ids') (hg : W.grownBy W' vi.ownBlock) (hat : vi'.ownBlock = vi.ownBlock ∨ ∃ b, vi'.ownBlock = some b ∧ W.heap.size ≤ b) : AI X gs v D vi' ids' W' := by
 have tb1 := h.tb.grown h.iv hB (Ne.symm ht) hg (fun k hk => hk.2)
 exact ⟨⟨tb1.box, Kd.Ay0 h.tb.row hg hat, tb1.map, tb1.pm, tb1.hg, tb1.hb, tb1.tab⟩, hr, h.fr.own h.iv hg⟩
end
structure AN (X : AX) (gs : List (List S123)) (v : Value) (D : DataW Unit) (vi : Value) (ids : List Int) (vo : Value) (o : List S123) (W : World) : Prop where
 box : W.heap[X.g]? = some (.cells (v :: .map (some X.b) :: .int .i64 (Ab2 gs) :: X.rest).toArray X.t (0, 0))
 row : Kd.R kFam 244 W X.B (fun k => True ∧ some k ≠ vi.ownBlock) v (Ad6 0 gs)
 map : W.ownsMap Tryz.prog 9 (plainElem (H := Unit) Tryz.prog 3) X.b (gs.length + 1) D
 iv : Kd.R (Kd.int .i64) 3 W X.w.heap.size (fun _ => True) vi ids
 fr : FrA X.B X.g X.b X.w W
 ov : Kd.R k123 123 W X.w.heap.size (fun k => True ∧ some k ≠ vi.ownBlock) vo o
 hg : X.B ≤ X.g
 hb : X.B ≤ X.b
 tab : Lib.TabBelow Tryz.prog X.B W "internal/strconv.uint64pow10" .u64 Lib.pow10Tab
structure AQ (X : AX) (gs : List (List S123)) (v : Value) (m : Int) (D : DataW Unit) (vi : Value) (ids : List Int) (W : World) : Prop where
 box : W.heap[X.g]? = some (.cells (v :: .map (some X.b) :: .int .i64 m :: X.rest).toArray X.t (0, 0))
 row : Kd.R kFam 244 W X.B (fun k => True ∧ some k ≠ vi.ownBlock) v (Ad6 0 gs)
 map : W.ownsMap Tryz.prog 9 (plainElem (H := Unit) Tryz.prog 3) X.b gs.length D
 iv : Kd.R (Kd.int .i64) 3 W X.w.heap.size (fun _ => True) vi ids
 fr : FrA X.B X.g X.b X.w W
 hg : X.B ≤ X.g
 hb : X.B ≤ X.b
 tab : Lib.TabBelow Tryz.prog X.B W "internal/strconv.uint64pow10" .u64 Lib.pow10Tab
section
variable {X : AX} {gs : List (List S123)} {v vi vo : Value} {D : DataW Unit} {ids : List Int} {w2 W W' : World} {o : List S123} {m : Int}
theorem Ae7 {B : Nat} {r : Option Nat} (hg : W.grownBy W' r) (hz : B ≤ W.heap.size) (hr : ∀ k, r = some k → B ≤ k) : Below B W W' :=
 ⟨hg.os, hg.tape, hg.output, hg.size, fun k hk => hg.block k (by omega) (fun e => by have := hr k e.symm; omega)⟩
theorem AO.map (hB : X.B ≤ X.w.heap.size) (h : AO X gs v D vi ids w2 vo o W) {D' : DataW Unit} (hm : W'.ownsMap Tryz.prog 9 (plainElem (H := Unit) Tryz.prog 3) X.b (gs.length + 1) D') (hg : W.grownBy W' (some X.b)) : AN X gs v D' vi ids vo o W' where
 box := Ab5 h.tb.box hg (by intro e; injection e with e; exact As3 h.tb.map h.tb.box e)
 row := Kd.Af7 (R_map h.tb.map h.tb.row hg) (fun k hk => hk.1)
 map := hm
 iv := R_map h.tb.map h.iv hg
 fr := h.fr.map h.tb.hb hg
 ov := Kd.Ak4 (R_map h.tb.map h.ov hg) h.z2
 hg := h.tb.hg
 hb := h.tb.hb
 tab := h.tb.tab.on (Ae7 hg h.fr.zz (fun k e => by injection e with e; have := h.tb.hb; omega))
theorem AN.below (h : AN X gs v D vi ids vo o W) (hb : Below W.heap.size W W') : AN X gs v D vi ids vo o W' :=
 ⟨Aa3 h.box hb, Kd.Ac5 h.row hb, h.map.kept (Ak5 hb none) (by simp), Kd.Ac5 h.iv hb, h.fr.below hb, Kd.Ac5 h.ov hb, h.hg, h.hb, h.tab.on (hb.mono h.fr.zz)⟩
theorem AN.grown (ht : X.t ≠ 244) (h : AN X gs v D vi ids vo o W) {v' : Value} (_hr : Kd.R kFam 244 W' X.B (fun k => True ∧ some k ≠ vi.ownBlock) v' (Ad6 0 (gs ++ [o]))) (hg : W.grownBy W' v.ownBlock) :
  W'.heap[X.g]? = some (.cells (v :: .map (some X.b) :: .int .i64 (Ab2 gs) :: X.rest).toArray X.t (0, 0)) := Ab5 h.box hg (Kd.R_ne h.row h.box (Ne.symm ht))
theorem AN.put (ht : TabTy X.t) (h : AN X gs v D vi ids vo o W) {v' : Value} (hr : Kd.R kFam 244 W' X.B (fun k => True ∧ some k ≠ vi.ownBlock) v' (Ad6 0 (gs ++ [o]))) (hg : W.grownBy W' v.ownBlock) : AQ X (gs ++ [o]) v' (Ab2 gs) D vi ids (W'.setCell ⟨X.g, 0, none⟩ v') := by
 have bx := h.grown (by rcases ht with h | h <;> rw [h] <;> decide) hr hg
 have bel := Ae7 hg h.fr.zz (Ag5 h.row)
 have iv' := Ad9 h.row hg h.iv (by decide)
 have hq : ∀ q, q ∈ 244 :: kFam.E → q ≠ X.t := by rcases ht with h | h <;> rw [h] <;> decide
 have hq2 : ∀ q, q ∈ 3 :: (Kd.int .i64).E → q ≠ X.t := by rcases ht with h | h <;> rw [h] <;> decide
 exact {
  box := by have := Aa7 bx 0 v'; simpa using this
  row := Kd.Ac3 hr bx hq 0 v'
  map := by
   have m1 := h.map.kept hg (map_ne h.map h.row)
   have m2 := m1.kept (w' := W'.setCell ⟨X.g, 0, none⟩ v') (row := some X.g) ⟨rfl, rfl, rfl, by simp, fun i _ hi => Below.heap_setCell W' ⟨X.g, 0, none⟩ v' i (by rintro rfl; exact hi rfl)⟩ (by intro e; injection e with e; exact As3 m1 bx e.symm)
   rw [List.length_append]
   exact m2
  iv := Kd.Ac3 iv' bx hq2 0 v'
  fr := (h.fr.fams h.row hg).store h.hg 0 v'
  hg := h.hg
  hb := h.hb
  tab := h.tab.on (bel.trans ((Below.refl _ _).setCell h.hg v')) }
theorem AQ.set2 (ht : TabTy X.t) (h : AQ X gs v m D vi ids W) (m' : Int) : AQ X gs v m' D vi ids (W.setCell ⟨X.g, 2, none⟩ (.int .i64 m')) := by
 have hq : ∀ q, q ∈ 244 :: kFam.E → q ≠ X.t := by rcases ht with h | h <;> rw [h] <;> decide
 have hq2 : ∀ q, q ∈ 3 :: (Kd.int .i64).E → q ≠ X.t := by rcases ht with h | h <;> rw [h] <;> decide
 exact {
  box := by have := Aa7 h.box 2 (.int .i64 m'); simpa using this
  row := Kd.Ac3 h.row h.box hq 2 _
  map := h.map.kept (row := some X.g) ⟨rfl, rfl, rfl, by simp, fun i _ hi => Below.heap_setCell W ⟨X.g, 2, none⟩ _ i (by rintro rfl; exact hi rfl)⟩ (by intro e; injection e with e; exact As3 h.map h.box e.symm)
  iv := Kd.Ac3 h.iv h.box hq2 2 _
  fr := h.fr.store h.hg 2 _
  hg := h.hg
  hb := h.hb
  tab := h.tab.on ((Below.refl _ _).setCell h.hg _) }
theorem AQ.ai (h : AQ X gs v (Ab2 gs) D vi ids W) (pm : PM gs D) : AI X gs v D vi ids W := ⟨⟨h.box, h.row, h.map, pm, h.hg, h.hb, h.tab⟩, h.iv, h.fr⟩
end
end Go.Proofs.YtohlmkcgempdlaaGreatDoor.Cn
namespace Go.Proofs.YtohlmkcgempdlaaGreatDoor.Cn
open Go.RowKit Go.Maps Go.Proofs.YtohlmkcgempdlaaGreatDoorW.PrintWords Go.Proofs.YtohlmkcgempdlaaGreatDoorW.PrintLast Go.Proofs.YtohlmkcgempdlaaGreatDoor.QD
theorem Bs4 (w : World) : (zeroValue 3).run Tryz.prog w = .ok (.int .i64 0) w := by kernel_rfl
theorem Av2 {B B' : Nat} {w : World} {name : String} {q : IntKind} {zs : List Int} (h : Lib.TabBelow Tryz.prog B w name q zs) (hB : B ≤ B') : Lib.TabBelow Tryz.prog B' w name q zs := fun w' hb => h w' (hb.mono hB)
theorem Au0 {W : World} {g : Nat} {a b c : Value} {rest : List Value} {t : TypeId} (h : W.heap[g]? = some (.cells (a :: b :: c :: rest).toArray t (0, 0))) : W.cell? ⟨g, 0, none⟩ = some a ∧ W.cell? ⟨g, 1, none⟩ = some b ∧ W.cell? ⟨g, 2, none⟩ = some c :=
 ⟨(Aa0 h 0).trans (by simp), (Aa0 h 1).trans (by simp), (Aa0 h 2).trans (by simp)⟩
theorem at_fam {W : World} {A : Option Addr} {n : Nat} {l : List (Int × List S123)} (h : Kd.C kFam W A n l) (p : Nat) (x : Int × List S123) (hx : l[p]? = some x) (hn : n = l.length) : ∃ ad, A = some ad ∧ W.cell? (ad.add (p * 2)) = some (.int .i64 x.1) := by
 have hp : p < l.length := (List.getElem?_eq_some_iff.1 hx).1
 obtain ⟨ad, c, e, _, hK, hc⟩ := Kd.Bh6 h ((0 : Int), ([] : List S123)) (p : Int) (by omega) (by omega)
 have e1 : l.getD (p : Int).toNat ((0 : Int), ([] : List S123)) = x := by simp [List.getD_eq_getElem?_getD, hx]
 rw [e1] at hK
 obtain ⟨c0, c1, hcs, h0, h1⟩ := hK
 refine ⟨ad, e, ?_⟩
 have h0' : c0 = [.int .i64 x.1] := h0
 subst hcs
 subst h0'
 exact hc 0 _ rfl
structure AB2 (n0 : Int) (k : Nat) (st : List (List S123) × List Int) : Prop where
 many : Ab2 st.1 ≤ n0 + k
 len : st.2.length = k
 ids : ∀ i ∈ st.2, 0 ≤ i ∧ i < n0 + k
theorem AB2.start (gs : List (List S123)) : AB2 (Ab2 gs) 0 (gs, []) := ⟨by show Ab2 gs ≤ Ab2 gs + ((0 : Nat) : Int); omega, rfl, fun i hi => by cases hi⟩
theorem AB2.step {n0 : Int} {k m : Nat} {gs gs' : List (List S123)} {ids : List Int} (h : AB2 n0 k (gs, ids)) {f : Int} (h0 : 0 ≤ f) (h1 : f + m ≤ n0 + k + m) (hm : Ab2 gs' ≤ n0 + (k + m : Nat)) : AB2 n0 (k + m) (gs', ids ++ Ac8 f m) := by
 refine ⟨hm, ?_, ?_⟩
 ·have := h.len; simp only [List.length_append, Ac4] at *; omega
 ·intro i hi
  rcases List.mem_append.1 hi with hi | hi
  ·have := h.ids i hi; omega
  ·simp only [Ac8, List.mem_map, List.mem_range] at hi
   obtain ⟨q, hq, rfl⟩ := hi
   omega
def Ca1 (X : AX) (st : Option (List (List S123) × List Int)) (e : Ending) (w' : World) : Prop :=
 match st with
 | some (gs, ids) => ∃ v D vi, e = .returned (.tuple #[vi, .int .i64 (-1)]) ∧ AI X gs v D vi ids w'
 | none => ∃ (n : Nat) (gs : _) (v : Value) (D : DataW Unit), e = .returned (.tuple #[.slice none 0 0, .int .i64 n]) ∧ TB X.B X.g X.t X.rest (fun _ => True) gs v X.b D w' ∧ FrA X.B X.g X.b X.w w'
end Go.Proofs.YtohlmkcgempdlaaGreatDoor.Cn
namespace Go.Proofs.YtohlmkcgempdlaaGreatDoor.Cn
set_option linter.unusedSimpArgs false
set_option maxRecDepth 100000
set_option linter.unusedVariables false
open Go.RowKit Go.Maps Go.Proofs.YtohlmkcgempdlaaGreatDoorW.PrintWords Go.Proofs.YtohlmkcgempdlaaGreatDoorW.PrintLast Go.Proofs.YtohlmkcgempdlaaGreatDoorW.PrintMore Go.Proofs.YtohlmkcgempdlaaGreatDoor.QD
theorem Bc7 (l : List S123) (j : Nat) (h : j < l.length) : l[j]? = some (Ac2 l (j : Int)) := by simp [Ac2, List.getD_eq_getElem?_getD, List.getElem?_eq_getElem h]
set_option maxHeartbeats 8000000 in
theorem Bf8 (X : AX) (v0 : Value) (D0 : DataW Unit) (A : Option Addr) (c : Nat) (hT : TB X.B X.g X.t X.rest (fun _ => True) X.gs0 v0 X.b D0 X.w) (ht : TabTy X.t) (hB : X.B ≤ X.w.heap.size) (hL : LR (fun W => FrA X.B X.g X.b X.w W) A X.l)
  (hcap : X.l.length ≤ c) (hin : ∀ r ∈ X.l, ∀ s ∈ r.f0, RIn s) (hw : wL X.l ≤ 1048576) (hl : X.l.length ≤ 1048576) (hm0 : Ab2 X.gs0 ≤ 1099511627776) (hg0 : X.gs0.length ≤ 1099511627776) (hmost : 0 ≤ X.most ∧ X.most ≤ 9223372036854775807) :
  Calls Tryz.prog 164 #[.pointer (some ⟨X.g, 0, none⟩), .slice A X.l.length c, .int .i64 X.most] X.w fun e w' => Ca1 X (Ae1 X.most (X.gs0, []) X.l) e w' := by
 obtain ⟨B, g, t, rest, gs0, b, l, most, w⟩ := X
 dsimp only at *
 have HT := zA ht
 have HZ := zA hB
 have HLR := zA hL
 have HIN := zA hin
 have HW := zA hw
 have HM0 := zA hm0
 have HG0 := zA hg0
 have HT0 := zA hT
 obtain ⟨X, hX⟩ : ∃ X : AX, X = ⟨B, g, t, rest, gs0, b, l, most, w⟩ := ⟨_, rfl⟩
 have HX := zA hX
 have TS : AI X gs0 v0 D0 (.slice none 0 0) [] w := by
  rw [hX]
  exact ⟨hT.weak (fun k _ => ⟨trivial, by simp [Value.ownBlock]⟩), Kd.Aj9 _ _ _ _ _, FrA.refl hB⟩
 clear ht hL hin hw hm0 hg0 hT hB hX
 obtain ⟨m0, m1⟩ := hmost
 rw [← HX.out]
 go_enter Tryz.func164, Tryz.ntmps164
 go_wp2_with fail
 go_loopw [21, 8] (fun i vi W => ∃ (j : Nat) (gs : List (List S123)) (v : Value) (D : DataW Unit) (ids : List Int), i = .int .i64 j ∧ j ≤ l.length ∧ Ae1 most (gs0, []) (l.take j) = some (gs, ids) ∧ AI X gs v D vi ids W ∧ AB2 (Ab2 gs0) (Aa8 (l.take j)) (gs, ids) ∧ gs.length ≤ gs0.length + j) (fun i _ _ => l.length - (intOf i).toNat)
 case atStart => exact ⟨0, gs0, _, _, [], rfl, Nat.zero_le _, rfl, TS, AB2.start gs0, Nat.le_refl _⟩
 case round =>
  clear TS
  obtain ⟨j, gs, v, D, ids, rfl, hj, hst, hAI, hab, hgl⟩ := hrel
  have HST := zA hst
  have HAB := zA hab
  have HGL := zA hgl
  have A0 := zA hAI
  clear hst hab hgl hAI
  by_cases hlt : j < l.length
  ·obtain ⟨wo, rfl⟩ : ∃ wo : World, wo = wr := ⟨_, rfl⟩
   obtain ⟨r, hr⟩ : ∃ r, l[j]? = some r := ⟨_, List.getElem?_eq_getElem hlt⟩
   obtain ⟨hd, hh⟩ := HLR.out
   obtain ⟨ad, rfl, hall⟩ := hh j r hr
   obtain ⟨hc0, hc1, hc2, hc3⟩ := hall wo (by have := A0.out.fr; rw [HX.out] at this; exact this)
   have HR := zA hr
   have HALL := zA hall
   have hrl : r.f0.length ≤ 1048576 := by have h1 := Ab7 l j r hr; have h2 := Ab4 l; have h3 := HW.out; omega
   obtain ⟨⟨Ar, cr⟩, hrr⟩ : ∃ p : Option Addr × Nat, p = hd j := ⟨_, rfl⟩
   rw [← hrr] at hc0 hc2
   dsimp only at hc0 hc2
   clear hr hall hc3 hh
   have A1 := zA (A0.out.below ((Below.refl wo.heap.size wo).alloc (Nat.le_refl _) (.cells #[.slice Ar r.f0.length cr, .bool r.f1] 132)))
   have BR := zA (Aa6 wo (.cells #[.slice Ar r.f0.length cr, .bool r.f1] 132))
   obtain ⟨Ai, ci, hvi⟩ := Kd.Aa9 A0.out.iv
   subst hvi
   go_wp2_with fail
   have hci : Kd.C (Kd.int .i64) (wo.alloc (.cells #[.slice Ar r.f0.length cr, .bool r.f1] 132)) Ai ids.length ids := by obtain ⟨_, _, e1, _, h1⟩ := Kd.Ae4 A1.out.iv; injection e1 with e1 e2 e3; subst e1; exact h1
   refine (Bn8 ids Ai ci _ hci).mono ?_
   rintro e w2 ⟨fv, rfl, hb2, C⟩
   have A2 := zA (A1.out.below hb2)
   have hc4 := bc_ (Aa3 BR.out hb2) 0
   have HZ2 : Aa2 (X.w.heap.size ≤ w2.heap.size) := ⟨by have h1 := A2.out.fr.bel.size; rw [HX.out] at h1 ⊢; exact h1⟩
   have CC := zA C
   clear C hb2 hci hc0 hc1
   go_wp2_with fail
   clear hc4
   go_loopw [31, 12] (fun i vo W => ∃ (k : Nat), i = .int .i64 k ∧ k ≤ r.f0.length ∧ AO X gs v D (.slice Ai ids.length ci) ids w2 vo ((r.f0.take k).map (Ah6 ids)) W) (fun i _ _ => r.f0.length - (intOf i).toNat)
   case atStart => exact ⟨0, rfl, Nat.zero_le _, A2.out.start HZ2.out⟩
   case round =>
    obtain ⟨k, rfl, hk, hAO⟩ := hrel
    have O0 := zA hAO
    clear hAO
    by_cases hlk : k < r.f0.length
    ·obtain ⟨lo, hlo⟩ : ∃ lo : List S123, lo = (r.f0.take k).map (Ah6 ids) := ⟨_, rfl⟩
     rw [← hlo] at O0
     have hll : lo.length ≤ r.f0.length := by rw [hlo, List.length_map, List.length_take]; omega
     have HLO := zA hlo
     clear hlo
     obtain ⟨Av, cv, hvo⟩ := Kd.Aa9 O0.out.ov
     subst hvo
     obtain ⟨_, _, _, hc3⟩ := HALL.out wr (by have := O0.out.fr; rw [HX.out] at this; exact this)
     rw [← hrr] at hc3
     dsimp only at hc3
     obtain ⟨ae, A1', c1, A3, c3, A4, c4, A5, c5, ea, d0, d1, d2, d3, d4, d5, n1, r1, n3, r3, n4, r4, n5, r5⟩ := An8 hc3 (k : Int) (by omega) (by omega)
     have HXK := zA (Bc7 r.f0 k hlk)
     cases ea
     simp only [Int.toNat_natCast] at d0 d1 d2 d3 d4 d5
     obtain ⟨x, hx⟩ : ∃ x, x = Ac2 r.f0 (k : Int) := ⟨_, rfl⟩
     rw [← hx] at d0 d1 d2 d3 d4 d5 n1 r1 n3 r3 n4 r4 n5 r5 HXK
     clear hx hc3
     have R1 := zA r1
     have R3 := zA r3
     have R4 := zA r4
     have R5 := zA r5
     clear r1 r3 r4 r5
     have O1 := zA (O0.out.below ((Below.refl wr.heap.size wr).alloc (Nat.le_refl _) (.cells #[.bool x.f0, .slice A1' x.f1.length c1, .int .i64 x.f2.f0, .slice A3 x.f2.f1.length c3, .slice A4 x.f2.f2.length c4, .slice A5 x.f2.f3.length c5] 123)))
     go_wp2_with fail
     have SI := zA (HIN.out r (List.mem_of_getElem? HR.out) x (List.mem_of_getElem? HXK.out))
     refine (Bp7 CC.out wr () x.f0 x.f2.f0 A1' c1 x.f1 A3 c3 x.f2.f1 A4 c4 x.f2.f2 A5 c5 x.f2.f3 _ O1.out.b2.size (bz_) (by intro k_ e_; cases e_) O1.out.b2 R1.out R3.out R4.out R5.out SI.out.ok.q1 SI.out.ok.q2 SI.out.ok.q3 SI.out.ok.q4 SI.out.ok.l1 SI.out.ok.l2 SI.out.ok.l3 SI.out.ok.l4).mono ?_
     rintro e w3 ⟨v1, v2, v3, v4, rfl, h1, h2, h3, h4, _, hgr⟩
     have hm := Br0 (b := x.f0) (n := x.f2.f0) h1 h2 h3 h4
     have hm2 : k123.M w3 w2.heap.size (fun k_ => wr.heap.size + 1 ≤ k_) (Ah6 ids x) [.bool x.f0, v1, .int .i64 x.f2.f0, v2, v3, v4] := k123.M_lower O1.out.b2.size (k123.M_mono (fun k_ hk_ => by have := hk_.2.1; simpa using this) (k123.M_bound hm))
     have O3 := zA (O1.out.below (Ae7 hgr (Nat.le_refl _) (by intro k_ e_; cases e_)))
     have hz3 : wr.heap.size + 1 ≤ w3.heap.size := by have := hgr.size; simpa using this
     have NI : ∀ k_, wr.heap.size + 1 ≤ k_ → some k_ ≠ (Value.slice Ai ids.length ci).ownBlock := fun k_ hk_ e_ => by obtain ⟨_, in_, ho_, _⟩ := O0.out.iv; have := Am3 ho_ k_ e_.symm; omega
     have NV : ∀ k_, wr.heap.size + 1 ≤ k_ → some k_ ≠ (Value.slice Av lo.length cv).ownBlock := fun k_ hk_ e_ => by obtain ⟨_, in_, ho_, _⟩ := O0.out.ov; have := Am3 ho_ k_ e_.symm; omega
     have HNI := zA NI
     have HNV := zA NV
     have HM2 := zA hm2
     have HZ3 := zA hz3
     clear h1 h2 h3 h4 hm hm2 hgr NI NV d0 d1 d2 d3 d4 d5
     go_wp2_with (at_builtin; refine Kd.Af9 k123 (w0 := w3) w2.heap.size rfl (.tmp 35) (.tmp 39) 130 123 (.agg #[.bool false, .slice none 0 0, .int .i64 0, .slice none 0 0, .slice none 0 0, .slice none 0 0]) 112 rfl Tryz.underlying130 Cj7 rfl (by decide) (by omega) (.slice Av lo.length cv) lo (Ah6 ids x) [.bool x.f0, v1, .int .i64 x.f2.f0, v2, v3, v4] (fun k_ => True ∧ some k_ ≠ (Value.slice Ai ids.length ci).ownBlock) (fun k_ => wr.heap.size + 1 ≤ k_) rfl rfl HM2.out (fun k_ hk_ => ⟨⟨trivial, HNI.out k_ hk_⟩, HNV.out k_ hk_⟩) (fun k_ hk_ => ⟨trivial, HNI.out k_ (Nat.le_trans HZ3.out hk_)⟩) O3.out.ov (Below.refl _ _) O3.out.b2.size (by omega) ?_; intro v5 w4 ho _ hg hat; have O4 := zA (O3.out.app (by have h_ := HT.out; rw [HX.out]; rcases h_ with h_ | h_ <;> (dsimp only; rw [h_]; decide)) (by rw [HX.out]; exact HZ.out) ho hg hat); clear ho hg hat)
     go_roundw
     case rel => exact ⟨k + 1, by go_num, by omega, by have e_ : (r.f0.take (k + 1)).map (Ah6 ids) = lo ++ [Ah6 ids x] := (by rw [List.take_add_one, HXK.out, List.map_append, HLO.out]; rfl); rw [e_]; exact O4.out⟩
     case measure => simp [intOf]; omega
    ·obtain rfl : k = r.f0.length := by omega
     rw [List.take_length] at O0
     clear hk hlk
     obtain ⟨own, hown⟩ : ∃ own_, own_ = ownG ids r := ⟨_, rfl⟩
     have O1 := O0
     rw [show r.f0.map (Ah6 ids) = own from hown.symm] at O1
     have HOWN := zA hown
     clear O0 hown
     obtain ⟨Ao, co, hvo, hco, hCo⟩ := Kd.Ae4 O1.out.ov
     subst hvo
     obtain ⟨wk, rfl⟩ : ∃ wk : World, wk = wr := ⟨_, rfl⟩
     have HOL : Aa2 (own.length = r.f0.length) := ⟨by rw [HOWN.out, Ac1]⟩
     have hob : own.length ≤ 1048576 := by rw [HOL.out]; exact hrl
     have S6 : Aa2 (∀ s ∈ own, S64 s) := ⟨by rw [HOWN.out]; have hids : ∀ i ∈ ids, 0 ≤ i ∧ i < Ab2 gs0 + (Aa8 (l.take j) : Nat) := HAB.out.ids; exact ownG_64 hids (by have h1 := Ab7 l j r HR.out; have h2 := Ab4 l; have h3 := HW.out; have h4 := HM0.out; omega) (by have h0 := HAB.out.len; dsimp only at h0; have h1 := Ab7 l j r HR.out; have h2 := Ab4 l; have h3 := HW.out; omega) (HIN.out r (List.mem_of_getElem? HR.out))⟩
     have WG : Aa2 (wG own ≤ 1048576) := ⟨by rw [HOWN.out, Bx7]; have h1 := Aw8 (fun r : S132 => wG r.f0) l r (List.mem_of_getElem? HR.out); have h2 := HW.out; unfold wL at h2; omega⟩
     have KL : Aa2 ((keyT own).length ≤ 262144000) := ⟨by have h1 := keyT_le own S6.out (by have := WG.out; omega); have h2 := WG.out; omega⟩
     go_wp2_with fail
     refine (Ci2 Ao co own wk hCo S6.out (by have := KL.out; omega) (Av2 O1.out.tb.tab O1.out.fr.zz)).mono ?_
     rintro e w5 ⟨sk, rfl, hsk, hb5⟩
     have O5 := zA (O1.out.below hb5)
     have hkey : keyOf Tryz.prog 9 (.string sk) = some (.string (keyT own)) := by rw [← hsk]; exact Go.WideMaps.keyOf_string_mk Tryz.underlying9 (by have h1 := KL.out; rw [← hsk] at h1; simp at h1; unfold maxLen; omega)
     have hmap := O5.out.tb.map
     obtain ⟨q0, q1, q2⟩ := Au0 O5.out.tb.box
     have eX : X.g = g ∧ X.b = b ∧ X.t = t ∧ X.B = B := by rw [HX.out]; exact ⟨rfl, rfl, rfl, rfl⟩
     obtain ⟨eg, eb, et, eB⟩ := eX
     rw [eg] at q0 q1 q2
     rw [eb] at q1 hmap
     obtain ⟨Av, cv, hv⟩ := Kd.Aa9 O5.out.tb.row
     rw [Ag2] at hv
     subst hv
     have HEG := zA eg
     have HEB := zA eb
     have HET := zA et
     have HEBB := zA eB
     have HMAP := zA hmap
     have HKEY := zA hkey
     have mm0 : 0 ≤ Ab2 gs := Aj3 gs
     have mm1 : Ab2 gs ≤ 2199023255552 := by have h0 := HAB.out.many; dsimp only at h0; have h1 := Ab7 l j r HR.out; have h2 := Ab4 l; have h3 := HW.out; have h4 := HM0.out; omega
     have gl : gs.length ≤ 2199023255552 := by have h0 := HGL.out; have h4 := HG0.out; omega
     clear hb5 hsk hmap hkey eg eb et eB hCo
     rcases hf : Ak9 gs own with _ | p
     ·have hD : has D (.string (keyT own)) = false := O5.out.tb.pm.miss _ (As9 hf)
      obtain ⟨mg, hmg⟩ : ∃ mg : Int, mg = Ab2 gs := ⟨_, rfl⟩
      rw [← hmg] at q2 mm0 mm1
      have HMG := zA hmg
      clear hmg
      have hwm : wrap64 (mg + (own.length : Int)) = mg + own.length := by unfold wrap64; omega
      by_cases hmo : most < mg + (own.length : Int)
      ·go_wp2_with (at_lookup; refine wpList_lookup_own_ok_int _ rfl _ _ 223 rfl 9 3 .i64 Aj1 Tryz.underlying223 Tryz.underlying3 (Bs4 _) b gs.length D rfl HMAP.out _ _ rfl HKEY.out ?_; intro ca hca hwc; rw [hD]; clear hca hwc)
       go_ret2
       have e0 : Ae1 most (gs0, []) l = none := Bj6 most _ l (j + 1) (by rw [Ao6 most _ l j r HR.out, HST.out]; show Ad4 most (gs, ids) r = none; unfold Ad4; dsimp only; rw [← HOWN.out, hf]; dsimp only; rw [if_pos (by rw [← HMG.out]; exact hmo)])
       rw [e0]
       exact ⟨j, gs, _, D, rfl, O5.out.tb.weak (fun _ _ => trivial), O5.out.fr⟩
      ·skip
       have HWL : Aa2 ((Lit.int .i64 (gs.length : Int)).wf = true) := ⟨by have h_ := wrap64_wf (gs.length : Int); rwa [show wrap64 (gs.length : Int) = gs.length from by unfold wrap64; omega] at h_⟩
       go_wp2_with (first | (at_lookup; refine wpList_lookup_own_ok_int _ rfl _ _ 223 rfl 9 3 .i64 Aj1 Tryz.underlying223 Tryz.underlying3 (Bs4 _) b gs.length D rfl HMAP.out _ _ rfl HKEY.out ?_; intro ca hca hwc; rw [hD]; clear hca hwc) | (at_mapUpdate; refine wpList_mapUpdate_own _ rfl _ _ _ 223 rfl 9 3 Aj1 Tryz.underlying223 _ b gs.length D rfl HMAP.out (by unfold maxLen; omega) _ _ _ rfl rfl HKEY.out _ [] (plainElem_int Tryz.underlying3 HWL.out) ?_; intro w6 hmap6 hg6))
       have N6 := zA (O5.out.map (by rw [HX.out]; exact HZ.out) (by rw [HEB.out]; exact hmap6) (by rw [HEB.out]; exact hg6))
       have PM6 := zA (O5.out.tb.pm.snoc (As9 hf))
       generalize D.put (.string (keyT own)) (.lit (.int .i64 (gs.length : Int))) = D6 at N6 PM6
       clear hmap6 hg6 q0 q1 q2
       have N7 := zA (N6.out.below (W' := w6.drew) ⟨rfl, rfl, rfl, Nat.le_refl _, fun _ _ => rfl⟩)
       obtain ⟨q0, q1, q2⟩ := Au0 N7.out.box
       rw [HEG.out] at q0 q1 q2
       rw [← HMG.out] at q2
       clear q1
       have QQ := zA (And.intro q0 q2)
       clear q0 q2
       go_wp2_with fail
       refine Ab3 (n := 16) (S := fun w' => w'.cell? ⟨g, 0, none⟩ = some (.slice Av gs.length cv) ∧ w'.cell? ⟨g, 2, none⟩ = some (.int .i64 mg)) (ds := [15]) (bm_ 16 0) (by kernel_rfl) rfl rfl ⟨QQ.out.1, QQ.out.2⟩ (fun hHeld => ?_)
       generalize World.drew _ = w7 at N7 QQ hHeld ⊢
       have HPM : Aa2 (kFam.M w7 X.B (fun k_ => (True ∧ some k_ ≠ (Value.slice Ai ids.length ci).ownBlock) ∧ some k_ ≠ (Value.slice Av gs.length cv).ownBlock) (mg, own) [.int .i64 mg, .slice Ao own.length co]) := ⟨⟨[.int .i64 mg], [.slice Ao own.length co], rfl, rfl, ⟨_, rfl, Kd.Ak4 (Cm5 N7.out.row N7.out.ov (by decide)) (by rw [HX.out]; exact HZ.out)⟩⟩⟩
       have HFR : Aa2 (∀ k_, w7.heap.size ≤ k_ → True ∧ some k_ ≠ (Value.slice Ai ids.length ci).ownBlock) := ⟨fun k_ hk_ => ⟨trivial, fun e_ => by obtain ⟨_, in_, ho_, _⟩ := N7.out.iv; have := Am3 ho_ k_ e_.symm; omega⟩⟩
       have QQW := zA (Au0 (Aa5 N7.out.box (.cells #[.int .i64 mg, .slice Ao own.length co] 244)))
       rw [HEG.out, ← HMG.out] at QQW
       refine pz_ 0 76 16 1 ?_
       refine pz_ 1 77 16 3 ?_
       refine pz_ 2 78 16 7 ?_
       refine pz_ 3 79 16 15 ?_
       refine pz_ 5 81 16 47 ?_
       refine pz_ 6 82 16 111 ?_
       refine pz_ 7 83 16 239 ?_
       refine pz_ 9 85 16 751 ?_
       refine tz_ 4 80 16 767 hHeld ?_
       refine tz_ 8 84 16 1023 hHeld ?_
       refine pz_ 10 86 16 2047 ?_
       refine oz_ 11 87 16 4095 fun K hK => ?_
       refine vz_ ?_
       refine hK.out _ _ ⟨QQW.out.1, QQW.out.2.2⟩ (fun hHeld => ?_)
       clear hK K
       refine nz_ ?_
       refine oz_ 12 88 16 8191 fun K hK => ?_
       refine Kd.Ab9 kFam (w0 := w7) X.B (by rfl) (.tmp 80) (.tmp 87) 224 244 (.agg #[.int .i64 0, .slice none 0 0]) 32 rfl Tryz.underlying224 Cj8 rfl (by decide) (by omega) (.slice Av gs.length cv) (Ad6 0 gs) (mg, own) [.int .i64 mg, .slice Ao own.length co] (fun k_ => True ∧ some k_ ≠ (Value.slice Ai ids.length ci).ownBlock) (fun k_ => (True ∧ some k_ ≠ (Value.slice Ai ids.length ci).ownBlock) ∧ some k_ ≠ (Value.slice Av gs.length cv).ownBlock) rfl rfl HPM.out (fun _ hk_ => hk_) HFR.out N7.out.row (Below.refl _ _) N7.out.fr.zz (by rw [Ag2]; omega) ?_
       intro v5 w8 ho _ hg hat
       rw [show Ad6 0 gs ++ [(mg, own)] = Ad6 0 (gs ++ [own]) by rw [Aw3, Int.zero_add, HMG.out]] at ho
       have Q8 := zA (N7.out.put (by rw [HX.out]; exact HT.out) ho hg)
       have b8 := N7.out.grown (by have h_ := HT.out; rw [HX.out]; rcases h_ with h_ | h_ <;> (dsimp only; rw [h_]; decide)) ho hg
       have ff := Aa1 b8 0
       obtain ⟨q0, q1, q2⟩ := Au0 b8
       rw [HEG.out] at q0 q1 q2 Q8 ff
       rw [← HMG.out] at q2 Q8
       obtain ⟨A5, c5, e5⟩ := Kd.Aa9 ho
       rw [Ag2, List.length_append, List.length_singleton] at e5
       subst e5
       have FF := zA ff
       have QQ2 := zA (And.intro q0 q2)
       clear q0 q1 q2 ff b8 ho hg hat
       refine hK.out _ _ ⟨QQ2.out.1, QQ2.out.2⟩ (fun hHeld => ?_)
       clear hK K
       refine nz_ ?_
       refine pz_ 13 89 16 16383 ?_
       refine pz_ 14 90 16 32767 ?_
       refine Ag8 (i := 15) (N := none) (bm_ 16 65535) rfl rfl (by kernel_rfl) (by decide) (fun K hK => ?_)
       have hs_ : w8.cell? ⟨g, 0, none⟩ = some (.slice Av gs.length cv) := QQ2.out.1
       have hfs_ : w8.frozen? ⟨g, 0, none⟩ = false := FF.out
       refine sz_ ?_
       refine hK.out _ _ ?_
       clear hK K
       refine dz_ ?_

       obtain ⟨gs2, hgs2⟩ : ∃ gs2 : List (List S123), gs2 = gs ++ [own] := ⟨_, rfl⟩
       rw [← hgs2] at Q8 PM6
       have HGS2 := zA hgs2
       generalize w8.setCell ⟨g, 0, none⟩ (.slice A5 (gs.length + 1) c5) = w9 at Q8 ⊢
       obtain ⟨q0, q1, q2⟩ := Au0 Q8.out.box
       have fz2 := Aa1 Q8.out.box 2
       rw [HEG.out] at q2 fz2
       have q3 : w9.cell? ⟨g, 2, none⟩ = some (.int .i64 mg) := q2
       have fz3 : w9.frozen? ⟨g, 2, none⟩ = false := fz2
       clear q2 fz2
       have Q9 := zA (Q8.out.set2 (by rw [HX.out]; exact HT.out) (mg + (own.length : Int)))
       rw [HEG.out] at Q9
       have emg : mg + (own.length : Int) = Ab2 gs2 := by rw [hgs2, Ak0, HMG.out]
       have I0 : Aa2 (AI X gs2 (.slice A5 (gs.length + 1) c5) D6 (.slice Ai ids.length ci) ids (w9.setCell ⟨g, 2, none⟩ (.int .i64 (mg + (own.length : Int))))) := ⟨AQ.ai (by have h_ := Q9.out; rw [emg] at h_ ⊢; exact h_) PM6.out⟩
       have HXP : Aa2 (gs2[gs.length]? = some own) := ⟨by rw [hgs2]; simp⟩
       have efo : Ab8 gs2 gs.length = mg := by rw [hgs2, HMG.out]; simp [Ab8]
       have E1 : Aa2 (∀ (k_ : Nat), k_ = own.length → Ae1 most (gs0, []) (l.take (j + 1)) = some (gs2, ids ++ Ac8 (Ab8 gs2 gs.length) k_)) := ⟨by intro k_ hk_; subst hk_; rw [efo, Ao6 most _ l j r HR.out, HST.out]; show Ad4 most (gs, ids) r = _; unfold Ad4; dsimp only; rw [← HOWN.out, hf]; dsimp only; rw [if_neg (by rw [← HMG.out]; omega), hgs2, HMG.out]⟩
       have E2 : Aa2 (AB2 (Ab2 gs0) (Aa8 (l.take (j + 1))) (gs2, ids ++ Ac8 (Ab8 gs2 gs.length) own.length)) := ⟨by rw [Ad8 l j r HR.out, ← HOL.out, efo]; have h1 := HAB.out.many; dsimp only at h1; have h2 := HMG.out; exact HAB.out.step mm0 (by omega) (by rw [← emg]; omega)⟩
       have E3 : Aa2 (gs2.length ≤ gs0.length + (j + 1)) := ⟨by rw [hgs2, List.length_append]; have := HGL.out; simp; omega⟩
       have FB : Aa2 (Ab8 gs2 gs.length ≤ 2199023255552) := ⟨by rw [efo]; exact mm1⟩
       have FB0 : Aa2 (0 ≤ Ab8 gs2 gs.length) := ⟨by rw [efo]; exact mm0⟩
       clear q0 q1 efo emg hgs2 hf
       go_wp2_with fail
       go_loopw [102, 8] (fun i vi W => ∃ (k : Nat), i = .int .i64 k ∧ k ≤ own.length ∧ AI X gs2 (.slice A5 (gs.length + 1) c5) D6 vi (ids ++ Ac8 (Ab8 gs2 gs.length) k) W) (fun i _ _ => own.length - (intOf i).toNat)
       case atStart => exact ⟨0, rfl, Nat.zero_le _, by simpa [Ac8] using I0.out⟩
       case round =>
        obtain ⟨k, rfl, hk, hI⟩ := hrel
        have I1 := zA hI
        clear hI
        by_cases hlk : k < own.length
        ·obtain ⟨q0, _, _⟩ := Au0 I1.out.tb.box
         rw [HEG.out] at q0
         obtain ⟨_, _, ev, _, hrd⟩ := Kd.Ae4 I1.out.tb.row
         injection ev with ev1 ev2 ev3
         subst ev1
         obtain ⟨af, eaf, hcf⟩ := at_fam hrd gs.length _ (Ar7 0 _ _ _ HXP.out) rfl
         cases eaf
         dsimp only at hcf
         rw [Int.zero_add] at hcf
         clear hrd ev2 ev3
         obtain ⟨li, hli⟩ : ∃ li_ : List Int, li_ = ids ++ Ac8 (Ab8 gs2 gs.length) k := ⟨_, rfl⟩
         rw [← hli] at I1
         have HLI := zA hli
         have hil : li.length ≤ 4194304 := by have h0 := HAB.out.len; dsimp only at h0; rw [hli, List.length_append, Ac4]; have h1 := Ab7 l j r HR.out; have h2 := Ab4 l; have h3 := HW.out; have h4 := HOL.out; omega
         clear hli
         obtain ⟨Aj, cj, hvj⟩ := Kd.Aa9 I1.out.iv
         subst hvj
         obtain ⟨f0, hf0⟩ : ∃ f0_ : Int, f0_ = Ab8 gs2 gs.length := ⟨_, rfl⟩
         have HF0 := zA hf0
         rw [← hf0] at hcf
         have hb0 : 0 ≤ f0 := by rw [hf0]; exact FB0.out
         have hb1 : f0 ≤ 2199023255552 := by rw [hf0]; exact FB.out
         clear hf0
         have hwf : wrap64 (f0 + (k : Int)) = f0 + k := by unfold wrap64; omega
         go_wp2_with (at_builtin; refine Kd.Af9 (Kd.int .i64) (w0 := wr) X.w.heap.size rfl (.tmp 105) (.tmp 116) 23 3 (.int .i64 0) 8 rfl Tryz.underlying23 Ax8 rfl (by decide) (by omega) (.slice Aj li.length cj) li (f0 + k) [.int .i64 (f0 + k)] (fun _ => True) (fun _ => False) rfl rfl rfl (fun _ hk_ => hk_.elim) (fun _ _ => trivial) I1.out.iv ⟨rfl, rfl, rfl, Nat.le_refl _, fun _ _ => rfl⟩ (by have h1 := I1.out.fr.bel.size; exact h1) (by omega) ?_; intro v5 w4 ho _ hg hat_; have I4 := zA (I1.out.app (by have h_ := HT.out; rw [HX.out]; rcases h_ with h_ | h_ <;> (dsimp only; rw [h_]; decide)) (by rw [HX.out]; exact HZ.out) ho hg hat_); clear ho hg hat_)
         go_roundw
         case rel => exact ⟨k + 1, by go_num, by omega, by have e_ : ids ++ Ac8 (Ab8 gs2 gs.length) (k + 1) = li ++ [f0 + k] := (by rw [Ar5, HLI.out, HF0.out, List.append_assoc]); rw [e_]; exact I4.out⟩
         case measure => simp [intOf]; omega
        ·obtain rfl : k = own.length := by omega
         clear hk hlk
         go_wp2_with fail
         go_roundw
         case rel => exact ⟨j + 1, gs2, _, _, _, by go_num, by omega, E1.out _ rfl, I1.out, E2.out, E3.out⟩
         case measure => simp [intOf]; omega
     ·skip
      obtain ⟨xp, hxp, hkp⟩ := As8 hf
      obtain ⟨hD, hat⟩ := O5.out.tb.pm.hit p xp hxp
      rw [hkp] at hD hat
      have I0 := zA O5.out.done
      have hpl : p < gs.length := (List.getElem?_eq_some_iff.1 hxp).1
      go_wp2_with (at_lookup; refine wpList_lookup_own_ok_int _ rfl _ _ 223 rfl 9 3 .i64 Aj1 Tryz.underlying223 Tryz.underlying3 (Bs4 _) b gs.length D rfl HMAP.out _ _ rfl HKEY.out ?_; intro ca hca hwc; rw [hD]; obtain rfl : ca = p := by (rw [hat] at hca; injection hca with hca; injection hca with _ hca; exact hca.symm))
      have FP := zA (As7 gs p xp hxp)
      have HXP := zA hxp
      have E1 : Aa2 (∀ (k_ : Nat), k_ = own.length → Ae1 most (gs0, []) (l.take (j + 1)) = some (gs, ids ++ Ac8 (Ab8 gs p) k_)) := ⟨by intro k_ hk_; subst hk_; rw [Ao6 most _ l j r HR.out, HST.out]; show Ad4 most (gs, ids) r = _; unfold Ad4; dsimp only; rw [← HOWN.out, hf]⟩
      have E2 : Aa2 (AB2 (Ab2 gs0) (Aa8 (l.take (j + 1))) (gs, ids ++ Ac8 (Ab8 gs p) own.length)) := ⟨by rw [Ad8 l j r HR.out, ← HOL.out]; have h1 := HAB.out.many; dsimp only at h1; exact HAB.out.step FP.out.1 (by have := FP.out.2; omega) (by omega)⟩
      have E3 : Aa2 (gs.length ≤ gs0.length + (j + 1)) := ⟨by have := HGL.out; omega⟩
      have FB : Aa2 (Ab8 gs p ≤ 2199023255552) := ⟨by have := FP.out.2; omega⟩
      have FB0 : Aa2 (0 ≤ Ab8 gs p) := ⟨FP.out.1⟩
      go_wp2_with fail
      go_loopw [102, 8] (fun i vi W => ∃ (k : Nat), i = .int .i64 k ∧ k ≤ own.length ∧ AI X gs (.slice Av gs.length cv) D vi (ids ++ Ac8 (Ab8 gs p) k) W) (fun i _ _ => own.length - (intOf i).toNat)
      case atStart => exact ⟨0, rfl, Nat.zero_le _, by simpa [Ac8] using I0.out⟩
      case round =>
       obtain ⟨k, rfl, hk, hI⟩ := hrel
       have I1 := zA hI
       clear hI
       by_cases hlk : k < own.length
       ·obtain ⟨q0, _, _⟩ := Au0 I1.out.tb.box
        rw [HEG.out] at q0
        obtain ⟨_, _, ev, _, hrd⟩ := Kd.Ae4 I1.out.tb.row
        injection ev with ev1 ev2 ev3
        subst ev1
        obtain ⟨af, eaf, hcf⟩ := at_fam hrd p _ (Ar7 0 _ _ _ HXP.out) rfl
        cases eaf
        dsimp only at hcf
        rw [Int.zero_add] at hcf
        clear hrd ev2 ev3
        obtain ⟨li, hli⟩ : ∃ li_ : List Int, li_ = ids ++ Ac8 (Ab8 gs p) k := ⟨_, rfl⟩
        rw [← hli] at I1
        have HLI := zA hli
        have hil : li.length ≤ 4194304 := by have h0 := HAB.out.len; dsimp only at h0; rw [hli, List.length_append, Ac4]; have h1 := Ab7 l j r HR.out; have h2 := Ab4 l; have h3 := HW.out; have h4 := HOL.out; omega
        clear hli
        obtain ⟨Aj, cj, hvj⟩ := Kd.Aa9 I1.out.iv
        subst hvj
        obtain ⟨f0, hf0⟩ : ∃ f0_ : Int, f0_ = Ab8 gs p := ⟨_, rfl⟩
        have HF0 := zA hf0
        rw [← hf0] at hcf
        have hb0 : 0 ≤ f0 := by rw [hf0]; exact FB0.out
        have hb1 : f0 ≤ 2199023255552 := by rw [hf0]; exact FB.out
        clear hf0
        have hwf : wrap64 (f0 + (k : Int)) = f0 + k := by unfold wrap64; omega
        go_wp2_with (at_builtin; refine Kd.Af9 (Kd.int .i64) (w0 := wr) X.w.heap.size rfl (.tmp 105) (.tmp 116) 23 3 (.int .i64 0) 8 rfl Tryz.underlying23 Ax8 rfl (by decide) (by omega) (.slice Aj li.length cj) li (f0 + k) [.int .i64 (f0 + k)] (fun _ => True) (fun _ => False) rfl rfl rfl (fun _ hk_ => hk_.elim) (fun _ _ => trivial) I1.out.iv ⟨rfl, rfl, rfl, Nat.le_refl _, fun _ _ => rfl⟩ (by have h1 := I1.out.fr.bel.size; exact h1) (by omega) ?_; intro v5 w4 ho _ hg hat_; have I4 := zA (I1.out.app (by have h_ := HT.out; rw [HX.out]; rcases h_ with h_ | h_ <;> (dsimp only; rw [h_]; decide)) (by rw [HX.out]; exact HZ.out) ho hg hat_); clear ho hg hat_)
        go_roundw
        case rel => exact ⟨k + 1, by go_num, by omega, by have e_ : ids ++ Ac8 (Ab8 gs p) (k + 1) = li ++ [f0 + k] := (by rw [Ar5, HLI.out, HF0.out, List.append_assoc]); rw [e_]; exact I4.out⟩
        case measure => simp [intOf]; omega
       ·obtain rfl : k = own.length := by omega
        clear hk hlk
        go_wp2_with fail
        go_roundw
        case rel => exact ⟨j + 1, gs, _, _, _, by go_num, by omega, E1.out _ rfl, I1.out, E2.out, E3.out⟩
        case measure => simp [intOf]; omega
  ·obtain rfl : j = l.length := by omega
   have e0 := HST.out
   rw [List.take_length] at e0
   clear hj hlt
   go_wp2_with fail
   go_ret2
   rw [e0]
   exact ⟨v, D, _, rfl, A0.out⟩
def okF (en : Int) (b : Bool) (h : Int) : Bool := b && decide (h < en) && decide (-12 ≤ h)
def okS (en : Int) (b : Bool) (h : Int) : Bool × Int := (okF en b h, h)
def Az6 (l : List Int) : Bool := l.all fun h => decide (0 ≤ h)
def Ak6 (en : Int) (s : S123) : Bool := (tsub (okS en) (Az6 s.f1) s).1
def Clo (l : List S132) : Prop := ∀ (j : Nat) (r : S132), l[j]? = some r → ∀ s ∈ r.f0, Ak6 (Aa8 (l.take (j + 1)) : Nat) s = true
structure OkSt (okb eb : Nat) (en : Int) (b : Bool) (W : World) : Prop where
 ok : W.heap[okb]? = some (.cells #[.bool b] 4 (0, 0))
 en : W.heap[eb]? = some (.cells #[.int .i64 en] 3 (0, 0))
theorem Cg9 (okb eb : Nat) (b : Bool) (en h : Int) (w : World) (hne : okb ≠ eb) (hs : OkSt okb eb en b w) :
  Calls Tryz.prog 149 #[.int .i64 h, .pointer (some ⟨okb, 0, none⟩), .pointer (some ⟨eb, 0, none⟩)] w fun e w' => e = .returned (.int .i64 h) ∧ w' = w.setCell ⟨okb, 0, none⟩ (.bool (okF en b h)) := by
 have c0 : w.cell? ⟨okb, 0, none⟩ = some (.bool b) := (Aa0 hs.ok 0).trans rfl
 have c1 : w.cell? ⟨eb, 0, none⟩ = some (.int .i64 en) := (Aa0 hs.en 0).trans rfl
 have f0 : w.frozen? ⟨okb, 0, none⟩ = false := Aa1 hs.ok 0
 clear hs
 rcases hb : b with _ | _
 ·subst hb
  have e : okF en false h = false := rfl
  rw [e]
  go_enter Tryz.func149, Tryz.ntmps149
  go_wp2_with fail
  go_ret
  exact ⟨rfl, rfl⟩
 ·subst hb
  by_cases h1 : h < en
  ·by_cases h2 : -12 ≤ h
   ·have e : okF en true h = true := by simp [okF, h1, h2]
    rw [e]
    go_enter Tryz.func149, Tryz.ntmps149
    go_wp2_with fail
    go_ret
    exact ⟨rfl, rfl⟩
   ·have e : okF en true h = false := by simp [okF, h2]
    rw [e]
    go_enter Tryz.func149, Tryz.ntmps149
    go_wp2_with fail
    go_ret
    exact ⟨rfl, rfl⟩
  ·have e : okF en true h = false := by simp [okF, h1]
   rw [e]
   go_enter Tryz.func149, Tryz.ntmps149
   go_wp2_with fail
   go_ret
   exact ⟨rfl, rfl⟩
theorem okCb (okb eb base : Nat) (en : Int) (hne : okb ≠ eb) (h0 : okb < base) (h1 : eb < base) :
  Cb base (some okb) (fun _ => True) (OkSt okb eb en) (okS en) (.func (.func 149) #[] #[.pointer (some ⟨okb, 0, none⟩), .pointer (some ⟨eb, 0, none⟩)]) where
 row_lt := fun k h => by injection h with h; omega
 keep := fun {_ _ _} _ _ hb hs => ⟨(hb.block _ h0).trans hs.ok, (hb.block _ h1).trans hs.en⟩
 call := ⟨149, _, rfl, fun args w => Am6 Tryz.func149 (by kernel_rfl) rfl args w, fun s h w _ _ hs => (Cg9 okb eb s en h w hne hs).mono fun e w' ⟨he, hw⟩ => by
  subst hw
  refine ⟨he, ⟨?_, ?_⟩, ⟨rfl, rfl, rfl, by simp, fun i _ hi => Below.heap_setCell w ⟨okb, 0, none⟩ _ i (by rintro rfl; exact hi rfl)⟩⟩
  ·have := Aa7 hs.ok 0 (.bool (okF en s h))
   simpa [okS] using this
  ·exact (Below.heap_setCell w ⟨okb, 0, none⟩ _ eb (Ne.symm hne)).trans hs.en⟩
theorem Ca8 (l : List Int) (k : Nat) (y : Int) (h : l[k]? = some y) : Az6 (l.take (k + 1)) = (Az6 (l.take k) && decide (0 ≤ y)) := by
 rw [List.take_add_one, h]
 simp [Az6]
theorem Ba2 (l : List S132) (j : Nat) (h : j < l.length) : l[j]? = some (Ad5 l (j : Int)) := by simp [Ad5, List.getD_eq_getElem?_getD, List.getElem?_eq_getElem h]
structure CS (w : World) (en : Int) (W : World) : Prop where
 bel : Below w.heap.size w W
 en : W.heap[w.heap.size]? = some (.cells #[.int .i64 en] 3 (0, 0))
theorem CS.below {w W W' : World} {en : Int} (h : CS w en W) (hb : Below W.heap.size W W') : CS w en W' := ⟨h.bel.trans (hb.mono h.bel.size), Aa3 h.en hb⟩
theorem CS.alloc {w W : World} {en : Int} (h : CS w en W) (o : Obj) : CS w en (W.alloc o) := h.below ((Below.refl _ _).alloc (Nat.le_refl _) o)
theorem CS.lt {w W : World} {en : Int} (h : CS w en W) : w.heap.size < W.heap.size := Ac0 h.en
theorem CS.set {w W : World} {en : Int} (h : CS w en W) {g : Nat} (hg : w.heap.size < g) (u : Value) : CS w en (W.setCell ⟨g, 0, none⟩ u) :=
 ⟨h.bel.trans ((Below.refl _ _).setCell (Nat.le_of_lt hg) u), (Below.heap_setCell W ⟨g, 0, none⟩ u _ (by show w.heap.size ≠ g; omega)).trans h.en⟩
set_option maxHeartbeats 4000000 in
theorem An4 (A : Option Addr) (c : Nat) (l : List S132) (w : World) (hr : Kd.C k132 w A l.length l) (hcap : l.length ≤ c) (hl : Aa8 l ≤ 1099511627776) (hl2 : l.length ≤ 1099511627776) (hq : ∀ r ∈ l, ∀ s ∈ r.f0, SOk (fun _ => True) s) :
  Calls Tryz.prog 120 #[.slice A l.length c] w fun e w' => (∃ (n : Int) (er : Int), e = .returned (.tuple #[.int .i64 n, .int .i64 er]) ∧ ((n = 0 ∧ er = 0 ∧ Clo l) ∨ (er = 50 ∧ ¬ Clo l))) ∧ Below w.heap.size w w' := by
 have HR := zA hr
 have HL := zA hl
 have HQ := zA hq
 have CS0 : CS w 0 (w.alloc (.cells #[.int .i64 0] 3)) := ⟨bz_, Aa6 w _⟩
 clear hr hl hq
 go_enter Tryz.func120, Tryz.ntmps120
 go_wp2_with fail
 go_loopw [15, 4] (fun i n W => ∃ (j : Nat), i = .int .i64 j ∧ j ≤ l.length ∧ n = .int .i64 (Aa8 (l.take j) : Nat) ∧ CS w (Aa8 (l.take j) : Nat) W ∧ Clo (l.take j)) (fun i _ _ => l.length - (intOf i).toNat)
 case atStart => exact ⟨0, rfl, Nat.zero_le _, rfl, CS0, fun j r h => by simp at h⟩
 case round =>
  clear CS0
  obtain ⟨j, rfl, hj, rfl, hcs, hclo⟩ := hrel
  have C0 := zA hcs
  have HCLO := zA hclo
  clear hcs hclo
  by_cases hlt : j < l.length
  ·obtain ⟨wo, rfl⟩ : ∃ wo : World, wo = wr := ⟨_, rfl⟩
   obtain ⟨ad, Ar, cr, rfl, d0, d1, hrc, hrC⟩ := Aq1 HR.out (j : Int) (by omega) (by omega)
   have HRJ := zA (Ba2 l j hlt)
   simp only [Int.toNat_natCast] at d0 d1
   obtain ⟨r, hre⟩ : ∃ r, r = Ad5 l (j : Int) := ⟨_, rfl⟩
   rw [← hre] at d0 d1 hrc hrC HRJ
   clear hre
   replace d0 := (C0.out.bel.cell (World.block_lt_of_cell? w _ d0)).trans d0
   replace d1 := (C0.out.bel.cell (World.block_lt_of_cell? w _ d1)).trans d1
   have HRC := zA hrC
   obtain ⟨n0, hn0⟩ : ∃ n0 : Nat, n0 = Aa8 (l.take j) := ⟨_, rfl⟩
   have HN0 := zA hn0
   rw [← hn0] at C0 ⊢
   have htj : n0 + r.f0.length ≤ 1099511627776 := by have := Ab7 l j r HRJ.out; have := HL.out; omega
   clear hrC hn0
   have C1 := zA (C0.out.alloc (.cells #[.slice Ar r.f0.length cr, .bool r.f1] 132))
   have B1 := zA (Aa6 wo (.cells #[.slice Ar r.f0.length cr, .bool r.f1] 132))
   have en1 : (wo.alloc (.cells #[.slice Ar r.f0.length cr, .bool r.f1] 132)).cell? ⟨w.heap.size, 0, none⟩ = some (.int .i64 n0) := (Aa0 C1.out.en 0).trans rfl
   have fz1 : (wo.alloc (.cells #[.slice Ar r.f0.length cr, .bool r.f1] 132)).frozen? ⟨w.heap.size, 0, none⟩ = false := Aa1 C1.out.en 0
   have hwlt : w.heap.size < wo.heap.size := C0.out.lt
   have hwr : wrap64 ((n0 : Int) + (r.f0.length : Int)) = (n0 : Int) + (r.f0.length : Int) := by unfold wrap64; omega
   have C2a : CS w ((n0 + r.f0.length : Nat) : Int) (wo.setCell ⟨w.heap.size, 0, none⟩ (.int .i64 ((n0 : Int) + (r.f0.length : Int)))) := ⟨C0.out.bel.trans ((Below.refl w.heap.size _).setCell (Nat.le_refl w.heap.size) _), by have := Aa7 C0.out.en 0 (.int .i64 ((n0 : Int) + (r.f0.length : Int))); simpa using this⟩
   have C2 := zA (C2a.alloc (.cells #[.slice Ar r.f0.length cr, .bool r.f1] 132))
   clear C2a
   go_wp2_with fail
   go_loopw [27, 4] (fun i n W => ∃ (k : Nat), i = .int .i64 k ∧ k ≤ r.f0.length ∧ n = .int .i64 ((n0 + k : Nat) : Int) ∧ CS w ((n0 + r.f0.length : Nat) : Int) W ∧ ∀ s ∈ r.f0.take k, Ak6 ((n0 + r.f0.length : Nat) : Int) s = true) (fun i _ _ => r.f0.length - (intOf i).toNat)
   case atStart => exact ⟨0, rfl, Nat.zero_le _, rfl, C2.out, fun s h => by simp at h⟩
   case round =>
    clear en1 fz1 hwlt d0 d1
    obtain ⟨k, rfl, hk, rfl, hcs, hok⟩ := hrel
    have I0 := zA hcs
    have HOK := zA hok
    clear hcs hok
    by_cases hlk : k < r.f0.length
    ·obtain ⟨wi, rfl⟩ : ∃ wi : World, wi = wr := ⟨_, rfl⟩
     obtain ⟨ae, A1, c1, A3, c3, A4, c4, A5, c5, ea, d0, d1, d2, d3, d4, d5, n1, r1, n3, r3, n4, r4, n5, r5⟩ := An8 HRC.out (k : Int) (by omega) (by omega)
     have HXK := zA (Bc7 r.f0 k hlk)
     cases ea
     simp only [Int.toNat_natCast] at d0 d1 d2 d3 d4 d5
     obtain ⟨x, hx⟩ : ∃ x, x = Ac2 r.f0 (k : Int) := ⟨_, rfl⟩
     rw [← hx] at d0 d1 d2 d3 d4 d5 n1 r1 n3 r3 n4 r4 n5 r5 HXK
     clear hx
     replace d0 := (I0.out.bel.cell (World.block_lt_of_cell? w _ d0)).trans d0
     replace d1 := (I0.out.bel.cell (World.block_lt_of_cell? w _ d1)).trans d1
     replace d2 := (I0.out.bel.cell (World.block_lt_of_cell? w _ d2)).trans d2
     replace d3 := (I0.out.bel.cell (World.block_lt_of_cell? w _ d3)).trans d3
     replace d4 := (I0.out.bel.cell (World.block_lt_of_cell? w _ d4)).trans d4
     replace d5 := (I0.out.bel.cell (World.block_lt_of_cell? w _ d5)).trans d5
     have R1 := zA r1
     have R3 := zA r3
     have R4 := zA r4
     have R5 := zA r5
     have SI := zA (HQ.out r (List.mem_of_getElem? HRJ.out) x (List.mem_of_getElem? HXK.out))
     have hx1 : x.f1.length ≤ 17592186044416 := by have := SI.out.l1; omega
     clear r1 r3 r4 r5
     have J1 := zA ((I0.out.alloc (.cells #[.bool x.f0, .slice A1 x.f1.length c1, .int .i64 x.f2.f0, .slice A3 x.f2.f1.length c3, .slice A4 x.f2.f2.length c4, .slice A5 x.f2.f3.length c5] 123)).alloc (.cells #[.bool true] 4))
     have BX := zA (Aa5 (Aa6 wi (.cells #[.bool x.f0, .slice A1 x.f1.length c1, .int .i64 x.f2.f0, .slice A3 x.f2.f1.length c3, .slice A4 x.f2.f2.length c4, .slice A5 x.f2.f3.length c5] 123)) (.cells #[.bool true] 4))
     have BO : Aa2 (((wi.alloc (.cells #[.bool x.f0, .slice A1 x.f1.length c1, .int .i64 x.f2.f0, .slice A3 x.f2.f1.length c3, .slice A4 x.f2.f2.length c4, .slice A5 x.f2.f3.length c5] 123)).alloc (.cells #[.bool true] 4)).heap[wi.heap.size + 1]? = some (.cells #[.bool true] 4 (0, 0))) := ⟨by have h_ := Aa6 (wi.alloc (.cells #[.bool x.f0, .slice A1 x.f1.length c1, .int .i64 x.f2.f0, .slice A3 x.f2.f1.length c3, .slice A4 x.f2.f2.length c4, .slice A5 x.f2.f3.length c5] 123)) (.cells #[.bool true] 4); rw [World.size_alloc] at h_; exact h_⟩
     have WLT : Aa2 (w.heap.size < wi.heap.size) := ⟨I0.out.lt⟩
     go_wp2_with fail
     go_loopw [34] (fun i W => ∃ (q : Nat), i = .int .i64 q ∧ q ≤ x.f1.length ∧ CS w ((n0 + r.f0.length : Nat) : Int) W ∧ W.heap[wi.heap.size]? = some (.cells #[.bool x.f0, .slice A1 x.f1.length c1, .int .i64 x.f2.f0, .slice A3 x.f2.f1.length c3, .slice A4 x.f2.f2.length c4, .slice A5 x.f2.f3.length c5] 123 (0, 0)) ∧ W.heap[wi.heap.size + 1]? = some (.cells #[.bool (Az6 (x.f1.take q))] 4 (0, 0))) (fun i _ => x.f1.length - (intOf i).toNat)
     case atStart => exact ⟨0, rfl, Nat.zero_le _, J1.out, BX.out, BO.out⟩
     case round =>
      obtain ⟨q, rfl, hq, hcs, hbx, hbo⟩ := hrel
      have L0 := zA hcs
      have LX := zA hbx
      have LO := zA hbo
      clear hcs hbx hbo d0 d1 d2 d3 d4 d5
      by_cases hlq : q < x.f1.length
      ·obtain ⟨ws, rfl⟩ : ∃ ws : World, ws = wr := ⟨_, rfl⟩
       obtain ⟨ai, y, rfl, hy, hc⟩ := Au7 R1.out q hlq
       have HY := zA hy
       replace hc := (L0.out.bel.cell (World.block_lt_of_cell? w _ hc)).trans hc
       have ST := zA (Ca8 x.f1 q y hy)
       clear hy
       obtain ⟨b, hb⟩ : ∃ b, b = Az6 (x.f1.take q) := ⟨_, rfl⟩
       rw [← hb] at LO ST
       clear hb
       have e0 : ws.cell? ⟨wi.heap.size + 1, 0, none⟩ = some (.bool b) := (Aa0 LO.out 0).trans rfl
       have f0 : ws.frozen? ⟨wi.heap.size + 1, 0, none⟩ = false := Aa1 LO.out 0
       rcases hbb : b with _ | _
       ·subst hbb
        go_wp2_with fail
        go_roundw
        case rel =>
         have e_ : Az6 (x.f1.take (q + 1)) = false := by rw [ST.out]; rfl
         refine ⟨q + 1, by go_num, by omega, L0.out.set (by have := WLT.out; omega) _, (Below.heap_setCell ws ⟨wi.heap.size + 1, 0, none⟩ _ _ (by simp)).trans LX.out, ?_⟩
         rw [e_]
         have := Aa7 LO.out 0 (.bool false)
         simpa using this
        case measure => simp [intOf]; omega
       ·subst hbb
        by_cases hy0 : 0 ≤ y
        ·go_wp2_with fail
         go_roundw
         case rel =>
          have e_ : Az6 (x.f1.take (q + 1)) = true := by rw [ST.out]; simp [hy0]
          refine ⟨q + 1, by go_num, by omega, L0.out.set (by have := WLT.out; omega) _, (Below.heap_setCell ws ⟨wi.heap.size + 1, 0, none⟩ _ _ (by simp)).trans LX.out, ?_⟩
          rw [e_]
          have := Aa7 LO.out 0 (.bool true)
          simpa using this
         case measure => simp [intOf]; omega
        ·go_wp2_with fail
         go_roundw
         case rel =>
          have e_ : Az6 (x.f1.take (q + 1)) = false := by rw [ST.out]; simp [hy0]
          refine ⟨q + 1, by go_num, by omega, L0.out.set (by have := WLT.out; omega) _, (Below.heap_setCell ws ⟨wi.heap.size + 1, 0, none⟩ _ _ (by simp)).trans LX.out, ?_⟩
          rw [e_]
          have := Aa7 LO.out 0 (.bool false)
          simpa using this
         case measure => simp [intOf]; omega
      ·obtain rfl : q = x.f1.length := by omega
       rw [List.take_length] at LO
       clear hq hlq
       obtain ⟨ws, rfl⟩ : ∃ ws : World, ws = wr := ⟨_, rfl⟩
       have x0 : ws.cell? ⟨wi.heap.size, 0, none⟩ = some (.bool x.f0) := (Aa0 LX.out 0).trans rfl
       have x1 : ws.cell? ⟨wi.heap.size, 1, none⟩ = some (.slice A1 x.f1.length c1) := (Aa0 LX.out 1).trans rfl
       have x2 : ws.cell? ⟨wi.heap.size, 2, none⟩ = some (.int .i64 x.f2.f0) := (Aa0 LX.out 2).trans rfl
       have x3 : ws.cell? ⟨wi.heap.size, 3, none⟩ = some (.slice A3 x.f2.f1.length c3) := (Aa0 LX.out 3).trans rfl
       have x4 : ws.cell? ⟨wi.heap.size, 4, none⟩ = some (.slice A4 x.f2.f2.length c4) := (Aa0 LX.out 4).trans rfl
       have x5 : ws.cell? ⟨wi.heap.size, 5, none⟩ = some (.slice A5 x.f2.f3.length c5) := (Aa0 LX.out 5).trans rfl
       go_wp2_with fail
       have KB := okCb (wi.heap.size + 1) w.heap.size ws.heap.size ((n0 + r.f0.length : Nat) : Int) (by have := WLT.out; omega) (Ac0 LO.out) L0.out.lt
       refine (Ay2 KB w (Az6 x.f1) x.f0 x.f2.f0 A1 c1 x.f1 A3 c3 x.f2.f1 A4 c4 x.f2.f2 A5 c5 x.f2.f3 _ (Nat.le_refl _) L0.out.bel (by intro k_ e_; injection e_ with e_; have := WLT.out; omega) ⟨LO.out, L0.out.en⟩ R1.out R3.out R4.out R5.out (fun _ _ => trivial) (fun _ _ _ => trivial) (fun _ _ _ => trivial) (fun _ _ _ => trivial) SI.out.l1 SI.out.l2 SI.out.l3 SI.out.l4).mono ?_
       rintro e w3 ⟨v1, v2, v3, v4, rfl, _, _, _, _, hst, hgr⟩
       have S3 : OkSt (wi.heap.size + 1) w.heap.size ((n0 + r.f0.length : Nat) : Int) (Ak6 ((n0 + r.f0.length : Nat) : Int) x) w3 := hst
       have P3 : Aa2 (CS w ((n0 + r.f0.length : Nat) : Int) w3) := ⟨⟨L0.out.bel.trans (Ae7 hgr L0.out.bel.size (fun k_ e_ => by injection e_ with e_; have := WLT.out; omega)), S3.en⟩⟩
       have ec : w3.cell? ⟨wi.heap.size + 1, 0, none⟩ = some (.bool (Ak6 ((n0 + r.f0.length : Nat) : Int) x)) := (Aa0 S3.ok 0).trans rfl
       clear hst hgr S3 KB
       obtain ⟨b, hb⟩ : ∃ b, b = Ak6 ((n0 + r.f0.length : Nat) : Int) x := ⟨_, rfl⟩
       have HB := zA hb
       rw [← hb] at ec
       clear hb
       rcases hbb : b with _ | _
       ·subst hbb
        go_wp2_with fail
        go_ret2
        refine ⟨⟨_, 50, rfl, Or.inr ⟨rfl, fun h_ => ?_⟩⟩, P3.out.bel⟩
        have h1 := h_ j r HRJ.out x (List.mem_of_getElem? HXK.out)
        rw [Ad8 l j r HRJ.out, ← HN0.out, ← HB.out] at h1
        cases h1
       ·subst hbb
        go_wp2_with fail
        go_roundw
        case rel =>
         refine ⟨k + 1, by go_num, by omega, by go_num, P3.out, fun s hs => ?_⟩
         rw [List.take_add_one, HXK.out] at hs
         rcases List.mem_append.1 hs with hs | hs
         ·exact HOK.out s hs
         ·simp at hs
          subst hs
          exact HB.out.symm
        case measure => simp [intOf]; omega
    ·obtain rfl : k = r.f0.length := by omega
     rw [List.take_length] at HOK
     clear hk hlk
     go_wp2_with fail
     go_roundw
     case rel =>
      refine ⟨j + 1, by go_num, by omega, by rw [Ad8 l j r HRJ.out, ← HN0.out], by rw [Ad8 l j r HRJ.out, ← HN0.out]; exact I0.out, fun i r' h' => ?_⟩
      rw [List.getElem?_take] at h'
      split at h'
      ·rename_i hi
       rcases Nat.lt_or_ge i j with h1 | h1
       ·have h2 := HCLO.out i r' (by rw [List.getElem?_take, if_pos h1]; exact h')
        rw [List.take_take] at h2 ⊢
        rw [show min (i + 1) j = i + 1 by omega] at h2
        rw [show min (i + 1) (j + 1) = i + 1 by omega]
        exact h2
       ·obtain rfl : i = j := by omega
        rw [HRJ.out] at h'
        injection h' with h'
        subst h'
        rw [List.take_take, Nat.min_self, Ad8 l i r HRJ.out, ← HN0.out]
        exact HOK.out
      ·cases h'
     case measure => simp [intOf]; omega
  ·obtain rfl : j = l.length := by omega
   rw [List.take_length] at HCLO
   clear hj hlt
   go_wp2_with fail
   go_ret2
   exact ⟨⟨0, 0, rfl, Or.inl ⟨rfl, rfl, HCLO.out⟩⟩, C0.out.bel⟩
end Go.Proofs.YtohlmkcgempdlaaGreatDoor.Cn
