/- Parts of the proof of vctlOpens_holds (3 of 22): what it says and shows stands at its declarations. -/
import Derived.Test.YtohlmkcgempdlaaGreatDoorZO2
import Derived.Test.YtohlmkcgempdlaaGreatDoorRows
import Derived.OpenShut
namespace Go.Proofs.YtohlmkcgempdlaaGreatDoor.Opb
open Go.RowKit Go.Proofs.YtohlmkcgempdlaaGreatDoorW.PrintWords
theorem Bl5 {β γ : Type} {f : β → Option γ} : ∀ {l : List β} {r : List γ}, l.mapM f = some r → r.length = l.length ∧ ∀ (j : Nat) (b : β), l[j]? = some b → ∃ c, r[j]? = some c ∧ f b = some c
 | [], r, h => by
  simp at h
  subst h
  exact ⟨rfl, fun j b h => by simp at h⟩
 | b :: l, r, h => by
  rw [List.mapM_cons] at h
  cases hb : f b with
  | none => rw [hb] at h; simp at h
  | some c =>
   rw [hb] at h
   cases hl : l.mapM f with
   | none => rw [hl] at h; simp at h
   | some r' =>
    rw [hl] at h
    simp at h
    subst h
    obtain ⟨h1, h2⟩ := Bl5 hl
    refine ⟨by simp [h1], fun j b' hj => ?_⟩
    cases j with
    | zero => simp at hj; subst hj; exact ⟨c, rfl, hb⟩
    | succ j => exact h2 j b' (by simpa using hj)
theorem Be8 {α : Type} {p : Nat → α → Prop} : ∀ (n : Nat), (∀ j, j < n → ∃ x, p j x) → ∃ xs : List α, xs.length = n ∧ ∀ (j : Nat) (x : α), xs[j]? = some x → p j x
 | 0, _ => ⟨[], rfl, fun j x h => by simp at h⟩
 | n + 1, h => by
  obtain ⟨xs, h1, h2⟩ := Be8 n (fun j hj => h j (by omega))
  obtain ⟨x, hx⟩ := h n (by omega)
  refine ⟨xs ++ [x], by simp [h1], fun j y hj => ?_⟩
  rcases Nat.lt_or_ge j xs.length with hl | hl
  ·rw [List.getElem?_append_left hl] at hj
   exact h2 j y hj
  ·have e : j = n := by
    have := (List.getElem?_eq_some_iff.1 hj).1
    simp at this
    omega
   subst e
   rw [List.getElem?_append_right hl] at hj
   simp [h1] at hj
   subst hj
   exact hx
theorem Cl0 {w : World} {base : Nat} {a : Addr} {n : Nat} {cs : List Value} (h : w.cells? base a n = some cs) : base ≤ a.block ∧ cs.length = n ∧ ∀ (i : Nat) (u : Value), cs[i]? = some u → w.cell? (a.add i) = some u := by
 unfold World.cells? at h
 split at h
 ·rename_i hb
  obtain ⟨h1, h2⟩ := Bl5 h
  simp at h1
  refine ⟨hb, h1, fun i u hu => ?_⟩
  have hi : i < n := by have := (List.getElem?_eq_some_iff.1 hu).1; omega
  obtain ⟨c, hc, hcell⟩ := h2 i i (by simp [hi])
  rw [hu] at hc
  injection hc with hc
  subst hc
  exact hcell
 ·cases h
theorem Bm7 {H : Type} (d : DataW H) : 1 ≤ Rows.uptoBulk d := by
 cases d with
 | lit l => cases l <;> simp [Rows.uptoBulk]
 | nil => simp [Rows.uptoBulk]
 | ptr d => simp [Rows.uptoBulk]
 | slice elems spare => simp [Rows.uptoBulk]
 | agg parts => simp [Rows.uptoBulk]
 | iface t d => simp [Rows.uptoBulk]
 | map entries => simp [Rows.uptoBulk]
 | held h => simp [Rows.uptoBulk]
theorem Bx9 {α H : Type} (bk : α → Nat) : ∀ (xs : List α) (ds : List (DataW H)), xs.length = ds.length → (∀ (j : Nat) (x : α) (d : DataW H), xs[j]? = some x → ds[j]? = some d → bk x ≤ Rows.uptoBulk d) → (xs.map bk).sum ≤ Rows.uptoBulkAll ds
 | [], [], _, _ => by simp [Rows.uptoBulkAll]
 | [], d :: ds, h, _ => by simp at h
 | x :: xs, [], h, _ => by simp at h
 | x :: xs, d :: ds, h, hb => by
  have h1 := hb 0 x d rfl rfl
  have h2 := Bx9 bk xs ds (by simpa using h) (fun j x' d' hx hd => hb (j + 1) x' d' (by simpa using hx) (by simpa using hd))
  simp only [List.map_cons, List.sum_cons, Rows.uptoBulkAll]
  omega
structure Opb {α : Type} (P : Program) (t : TypeId) (d : Kd α) (B : α → Prop) (bk : α → Nat) : Prop where
 sz : P.cellsOf t = d.sz
 op : ∀ {H : Type} {enc : TypeId × Value → H} {W : World} {base : Nat} {spare : Nat → Bool} {held : Bool} {fuel : Nat} {cs : List Value} {dd : DataW H} {ps : List MemPlace},
  DataW.trod enc P W base spare held fuel t cs = some (dd, ps) → ∃ x, d.K W x cs ∧ B x ∧ bk x ≤ Rows.uptoBulk dd
theorem Opb.int {P : Program} {t : TypeId} {k : IntKind} (hu : P.underlying t = some (.int k)) (hc : P.cellsOf t = 1) : Opb P t (Kd.int k) (fun x => (Lit.int k x).wf = true) (fun _ => 1) := by
 refine ⟨hc, ?_⟩
 intro H enc W base spare held fuel cs dd ps h
 cases fuel with
 | zero => simp [DataW.trod] at h
 | succ fuel =>
  unfold DataW.trod at h
  rw [hu] at h
  match cs, h with
  | [.int k' n], h =>
   simp at h
   obtain ⟨⟨rfl, hw⟩, _⟩ := h
   exact ⟨n, rfl, hw, Bm7 _⟩
theorem Opb.bool {P : Program} {t : TypeId} (hu : P.underlying t = some .bool) (hc : P.cellsOf t = 1) : Opb P t Kd.bool (fun _ => True) (fun _ => 1) := by
 refine ⟨hc, ?_⟩
 intro H enc W base spare held fuel cs dd ps h
 cases fuel with
 | zero => simp [DataW.trod] at h
 | succ fuel =>
  unfold DataW.trod at h
  rw [hu] at h
  match cs, h with
  | [.bool b], h => exact ⟨b, rfl, trivial, Bm7 _⟩
theorem Opb.slice {α : Type} {P : Program} {t e : TypeId} {d : Kd α} {B : α → Prop} {bk : α → Nat} (hu : P.underlying t = some (.slice e)) (hc : P.cellsOf t = 1) (ho : Opb P e d B bk) :
  Opb P t (Kd.slice e d) (fun xs => ∀ x ∈ xs, B x) (fun xs => (xs.map bk).sum + 1) := by
 refine ⟨hc, ?_⟩
 intro H enc W base spare held fuel cs dd ps h
 cases fuel with
 | zero => simp [DataW.trod] at h
 | succ fuel =>
  unfold DataW.trod at h
  rw [hu] at h
  match cs, h with
  | [.slice none 0 0], h => exact ⟨[], ⟨none, 0, rfl, Nat.le_refl _, Kd.Az9 d W⟩, fun x hx => by simp at hx, Bm7 _⟩
  | [.slice (some a) len cap], h =>
   dsimp only at h
   split at h
   ·rename_i hcond
    cases hm : (List.range len).mapM (fun i => (W.cells? base (a.add (i * P.cellsOf e)) (P.cellsOf e)).bind (DataW.trod enc P W base spare held fuel e)) with
    | none => rw [hm] at h; simp at h
    | some elems =>
     rw [hm] at h
     simp only [Option.bind_some, Option.map_eq_some_iff] at h
     obtain ⟨rest, _, h⟩ := h
     obtain ⟨rfl, _⟩ := Prod.mk.inj h
     obtain ⟨h1, h2⟩ := Bl5 hm
     simp only [List.length_range] at h1
     have key : ∀ j, j < len → ∃ x, ∃ c, c.length = d.sz ∧ d.K W x c ∧ (∀ (i : Nat) (u : Value), c[i]? = some u → W.cell? (a.add (j * d.sz + i)) = some u) ∧ B x ∧ ∀ y, elems[j]? = some y → bk x ≤ Rows.uptoBulk y.1 := by
      intro j hj
      obtain ⟨y, hy, hf⟩ := h2 j j (by simp [hj])
      simp only [Option.bind_eq_some_iff] at hf
      obtain ⟨c, hc1, hc2⟩ := hf
      obtain ⟨_, hcl, hcc⟩ := Cl0 hc1
      obtain ⟨x, hx, hBx, hbk⟩ := ho.op (dd := y.1) (ps := y.2) hc2
      refine ⟨x, c, by rw [hcl, ho.sz], hx, fun i u hu => ?_, hBx, fun y' hy' => ?_⟩
      ·have := hcc i u hu
       rw [Addr.add_add, ho.sz] at this
       exact this
      ·rw [hy] at hy'
       injection hy' with hy'
       subst hy'
       exact hbk
     obtain ⟨xs, hl, hxs⟩ := Be8 len key
     refine ⟨xs, ⟨some a, cap, by rw [hl], by rw [hl]; exact hcond.2.1, ⟨rfl, ?_, fun hpos => ⟨a, rfl, fun j p hj => ?_⟩⟩⟩, fun x hx => ?_, ?_⟩
     ·have := hcond.2.2
      have := hcond.2.1
      simp only [maxLen] at *
      omega
     ·obtain ⟨c, hc1, hc2, hc3, _⟩ := hxs j p hj
      exact ⟨c, hc1, hc2, hc3⟩
     ·obtain ⟨j, hj, rfl⟩ := List.mem_iff_getElem.1 hx
      obtain ⟨c, _, _, _, hB, _⟩ := hxs j _ (List.getElem?_eq_getElem hj)
      exact hB
     ·have := Bx9 bk xs (elems.map (·.1)) (by rw [hl, List.length_map, h1]) (fun j x d' hx hd => by
       rw [List.getElem?_map, Option.map_eq_some_iff] at hd
       obtain ⟨y, hy, rfl⟩ := hd
       obtain ⟨c, _, _, _, _, hb⟩ := hxs j x hx
       exact hb y hy)
      simp only [Rows.uptoBulk]
      omega
   ·cases h
structure OpbF {α : Type} (P : Program) (fs : List Field) (off : Nat) (d : Kd α) (B : α → Prop) (bk : α → Nat) : Prop where
 op : ∀ {H : Type} {enc : TypeId × Value → H} {W : World} {base : Nat} {spare : Nat → Bool} {held : Bool} {fuel : Nat} {cs : List Value} {xs : List (DataW H × List MemPlace)},
  (fs.mapM fun f => DataW.trod enc P W base spare held fuel f.type ((cs.drop f.offset).take (P.cellsOf f.type))) = some xs → 
   cs.length = off + d.sz → ∃ x, d.K W x (cs.drop off) ∧ B x ∧ bk x ≤ Rows.uptoBulkAll (xs.map (·.1))
theorem OpbF.last {α : Type} {P : Program} {f : Field} {off : Nat} {d : Kd α} {B : α → Prop} {bk : α → Nat} (h : Opb P f.type d B bk) (ho : f.offset = off) : OpbF P [f] off d B bk := by
 refine ⟨?_⟩
 intro H enc W base spare held fuel cs xs hx hl
 rw [List.mapM_cons] at hx
 cases hf : DataW.trod enc P W base spare held fuel f.type ((cs.drop f.offset).take (P.cellsOf f.type)) with
 | none => rw [hf] at hx; simp at hx
 | some y =>
  rw [hf] at hx
  simp at hx
  subst hx
  obtain ⟨x, hx, hB, hb⟩ := h.op (dd := y.1) (ps := y.2) hf
  have e : (cs.drop f.offset).take (P.cellsOf f.type) = cs.drop off := by
   rw [ho, h.sz]
   exact List.take_of_length_le (by rw [List.length_drop, hl]; omega)
  rw [e] at hx
  exact ⟨x, hx, hB, by simpa [Rows.uptoBulkAll] using hb⟩
theorem OpbF.cons {α β : Type} {P : Program} {f : Field} {fs : List Field} {off off' : Nat} {d : Kd α} {d' : Kd β} {B : α → Prop} {B' : β → Prop} {bk : α → Nat} {bk' : β → Nat} (h : Opb P f.type d B bk) (ho : f.offset = off) (hs : off + d.sz = off') (h' : OpbF P fs off' d' B' bk') :
  OpbF P (f :: fs) off (Kd.pair d d') (fun x => B x.1 ∧ B' x.2) (fun x => bk x.1 + bk' x.2) := by
 refine ⟨?_⟩
 intro H enc W base spare held fuel cs xs hx hl
 rw [List.mapM_cons] at hx
 cases hf : DataW.trod enc P W base spare held fuel f.type ((cs.drop f.offset).take (P.cellsOf f.type)) with
 | none => rw [hf] at hx; simp at hx
 | some y =>
  rw [hf] at hx
  cases hr : fs.mapM fun f => DataW.trod enc P W base spare held fuel f.type ((cs.drop f.offset).take (P.cellsOf f.type)) with
  | none => rw [hr] at hx; simp at hx
  | some r =>
   rw [hr] at hx
   simp at hx
   subst hx
   have hl' : cs.length = off + (d.sz + d'.sz) := hl
   obtain ⟨x, hx, hB, hb⟩ := h.op (dd := y.1) (ps := y.2) hf
   obtain ⟨z, hz, hB', hb'⟩ := h'.op (cs := cs) hr (by omega)
   refine ⟨(x, z), ⟨(cs.drop off).take d.sz, cs.drop off', ?_, ?_, hz⟩, ⟨hB, hB'⟩, ?_⟩
   ·rw [← hs, ← List.drop_drop, List.take_append_drop]
   ·rw [ho, h.sz] at hx
    exact hx
   ·simp only [List.map_cons, Rows.uptoBulkAll]
    omega
theorem Opb.struct {α : Type} {P : Program} {t : TypeId} {fs : Array Field} {d : Kd α} {B : α → Prop} {bk : α → Nat} (hu : P.underlying t = some (.struct fs)) (hc : P.cellsOf t = d.sz) (h : OpbF P fs.toList 0 d B bk) : Opb P t d B (fun x => bk x + 1) := by
 refine ⟨hc, ?_⟩
 intro H enc W base spare held fuel cs dd ps ht
 cases fuel with
 | zero => simp [DataW.trod] at ht
 | succ fuel =>
  unfold DataW.trod at ht
  rw [hu] at ht
  have ht' : (if cs.length = P.cellsOf t then (fs.toList.mapM fun f => DataW.trod enc P W base spare held fuel f.type ((cs.drop f.offset).take (P.cellsOf f.type))).map fun xs => (DataW.agg (xs.map (·.1)), xs.flatMap (·.2)) else none) = some (dd, ps) := by
   cases cs with
   | nil => exact ht
   | cons c cs => cases c <;> exact ht
  clear ht
  split at ht'
  ·rename_i hcs
   simp only [Option.map_eq_some_iff] at ht'
   obtain ⟨xs, hxs, h2⟩ := ht'
   obtain ⟨rfl, _⟩ := Prod.mk.inj h2
   obtain ⟨x, hx, hB, hb⟩ := h.op hxs (by omega)
   exact ⟨x, by simpa using hx, hB, by simp only [Rows.uptoBulk]; omega⟩
  ·cases ht'
theorem Opb.iso {α β : Type} {P : Program} {t : TypeId} {d : Kd α} {B : α → Prop} {bk : α → Nat} (h : Opb P t d B bk) (f : β → α) (g : α → β) (hg : ∀ a, f (g a) = a) : Opb P t (Kd.iso d f) (fun y => B (f y)) (fun y => bk (f y)) := by
 refine ⟨h.sz, ?_⟩
 intro H enc W base spare held fuel cs dd ps ht
 obtain ⟨x, hx, hB, hb⟩ := h.op ht
 refine ⟨g x, ?_, ?_, ?_⟩
 ·show d.K W (f (g x)) cs
  rw [hg]
  exact hx
 ·rw [hg]
  exact hB
 ·rw [hg]
  exact hb
theorem Opb.imp {α : Type} {P : Program} {t : TypeId} {d : Kd α} {B B' : α → Prop} {bk bk' : α → Nat} (h : Opb P t d B bk) (hb : ∀ x, B x → B' x) (hk : ∀ x, bk' x ≤ bk x) : Opb P t d B' bk' :=
 ⟨h.sz, fun ht => let ⟨x, hx, hB, hl⟩ := h.op ht; ⟨x, hx, hb x hB, Nat.le_trans (hk x) hl⟩⟩
theorem Opb.param {α H : Type} {P : Program} {t : TypeId} {d : Kd α} {B : α → Prop} {bk : α → Nat} (h : Opb P t d B bk) {enc : TypeId × Value → H} {W : World} {base : Nat} {spare : Nat → Bool} {held : Bool} {v : Value} {dd : DataW H} {ps : List MemPlace}
  (hv : DataW.Trod enc P W base spare held t v dd ps) : ∃ x, d.K W x v.cells.toList ∧ B x ∧ bk x ≤ Rows.uptoBulk dd := by
 obtain ⟨fuel, hf⟩ := hv
 exact h.op hf
end Go.Proofs.YtohlmkcgempdlaaGreatDoor.Opb
namespace Go.Proofs.YtohlmkcgempdlaaGreatDoorW.PrintLast
open Go.Proofs.YtohlmkcgempdlaaGreatDoorW.PrintWords (Aa2)
section
variable {md : Region.Mode} {ops : Array Oper} {T : Bool × List (List Nat × List Nat)} {l l' li lj lk : Array Bool} {ds : List Nat} {i j k : Nat}
theorem gd (l : Array Bool) (j : Nat) (b : Bool) : l.getD j b = l.toList.getD j b := by simp [Array.getD_eq_getD_getElem?, List.getD_eq_getElem?_getD]
end
end Go.Proofs.YtohlmkcgempdlaaGreatDoorW.PrintLast
namespace Go.Proofs.YtohlmkcgempdlaaGreatDoorW.PrintWords
open Go.RowKit
namespace Kd
def tag {α : Type} (f : Nat → Nat) (d : Kd α) : Kd (α × Nat) where
 sz := d.sz
 E := d.E
 K := fun w x cs => d.K w x.1 cs
 M := fun w base ok x cs => d.M w base (fun k => ok k ∧ f k = x.2) x.1 cs
 K_len := fun h => d.K_len h
 K_one := fun h => d.K_one h
 K_below := fun hb h => d.K_below hb h
 K_of_M := fun h => d.K_of_M h
 M_mono := fun hok h => d.M_mono (fun k hk => ⟨hok k hk.1, hk.2⟩) h
 M_bound := fun h => d.M_mono (fun _ hk => ⟨⟨hk.1.1, hk.2⟩, hk.1.2⟩) (d.M_bound h)
 M_move := fun hm h => d.M_move (fun k hk => hm k hk.1) h
 M_lower := fun hb h => d.M_lower hb h
def raw (sz : Nat) : Kd (List Value) where
 sz := sz
 E := []
 K := fun _ x cs => cs = x ∧ cs.length = sz ∧ ∀ u ∈ cs, u.oneCell' = true
 M := fun _ _ _ x cs => cs = x ∧ cs.length = sz ∧ ∀ u ∈ cs, u.oneCell' = true
 K_len := fun h => h.2.1
 K_one := fun h => h.2.2
 K_below := fun _ h => h
 K_of_M := fun h => h
 M_mono := fun _ h => h
 M_bound := fun h => h
 M_move := fun _ h => h
 M_lower := fun _ h => h
def S {α : Type} (d : Kd α) (e : Nat) (w : World) (base : Nat) (ok : Nat → Prop) (v : Value) (xs : List α) : Prop := ∃ f, (tag f d).R e w base ok v xs.zipIdx
section
variable {α β : Type} {d : Kd α} {d' : Kd β} {e e' : Nat} {w w1 W : World} {base b : Nat} {ok ok' okv oku : Nat → Prop} {u v : Value} {xs : List α} {ys : List β}
theorem R_head {ad : Addr} {n cap : Nat} (h : d.R e w base ok (.slice (some ad) n cap) xs) : ∃ g, ad = ⟨g, 0, none⟩ := by
 obtain ⟨_, inner, ho, hr⟩ := h
 rcases ho.2 with ⟨hv, _⟩ | ⟨g, cap', cur, hv, _⟩
 ·cases hv
 ·injection hv with ha _ _
  injection ha with ha
  exact ⟨g, ha⟩
theorem Bx3 (hE : d.E = []) (h : d.R e w base ok v xs) : d.R e w base (fun k => some k = v.ownBlock) v xs := by
 obtain ⟨h0, inner, ho, hr⟩ := h
 refine ⟨fun k hk => hk.symm, inner, ho, hr.imp_ (fun p c hp => d.M_mono (fun k hk => ?_) (d.M_bound hp))⟩
 obtain ⟨_, _, _, q, hq, _⟩ := hk
 rw [hE] at hq
 cases hq
end
section
variable {α β : Type} {d : Kd α} {d' : Kd β} {e e' g : Nat} {w w1 W : World} {base b : Nat} {ok ok' okv oku : Nat → Prop} {u v : Value} {xs : List α} {ys : List β}
theorem Bx6 (xs : List α) (p : α) : (xs ++ [p]).zipIdx = xs.zipIdx ++ [(p, xs.length)] := by rw [List.zipIdx_append]; simp
end
def gap {α : Type} (f : Nat → Nat) (d : Kd α) (i : Nat) (c : List Value) : Kd (α × Nat) where
 sz := d.sz
 E := d.E
 K := fun w x cs => (x.2 = i → cs = c ∧ cs.length = d.sz ∧ ∀ u ∈ cs, u.oneCell' = true) ∧ (x.2 ≠ i → d.K w x.1 cs)
 M := fun w base ok x cs => (x.2 = i → cs = c ∧ cs.length = d.sz ∧ ∀ u ∈ cs, u.oneCell' = true) ∧ (x.2 ≠ i → d.M w base (fun k => ok k ∧ f k = x.2) x.1 cs)
 K_len := fun {w x cs} h => by
  by_cases hx : x.2 = i
  ·exact (h.1 hx).2.1
  ·exact d.K_len (h.2 hx)
 K_one := fun {w x cs} h => by
  by_cases hx : x.2 = i
  ·exact (h.1 hx).2.2
  ·exact d.K_one (h.2 hx)
 K_below := fun hb h => ⟨h.1, fun hx => d.K_below hb (h.2 hx)⟩
 K_of_M := fun h => ⟨h.1, fun hx => d.K_of_M (h.2 hx)⟩
 M_mono := fun hok h => ⟨h.1, fun hx => d.M_mono (fun k hk => ⟨hok k hk.1, hk.2⟩) (h.2 hx)⟩
 M_bound := fun h => ⟨h.1, fun hx => d.M_mono (fun _ hk => ⟨⟨hk.1.1, hk.2⟩, hk.1.2⟩) (d.M_bound (h.2 hx))⟩
 M_move := fun hm h => ⟨h.1, fun hx => d.M_move (fun k hk => hm k hk.1) (h.2 hx)⟩
 M_lower := fun hb h => ⟨h.1, fun hx => d.M_lower hb (h.2 hx)⟩
def H {α : Type} (d : Kd α) (e : Nat) (w : World) (base : Nat) (ok : Nat → Prop) (v : Value) (xs : List α) (i : Int) (oki : Nat → Prop) (c : List Value) : Prop :=
 (∀ k, oki k → ok k) ∧ ∃ f, (gap f d i.toNat c).R e w base (fun k => ok k ∧ ¬ oki k) v xs.zipIdx
end Kd
end Go.Proofs.YtohlmkcgempdlaaGreatDoorW.PrintWords
namespace Go.Proofs.YtohlmkcgempdlaaGreatDoorW.PrintWords
open Go.RowKit
namespace Kd
structure Heap {α : Type} (d : Kd α) : Prop where
 K : ∀ {w w1 : World} {x : α} {cs : List Value}, (∀ k, k < w.heap.size → w1.heap[k]? = w.heap[k]?) → d.K w x cs → d.K w1 x cs
theorem Cl1 {w w1 : World} (hb : ∀ k, k < w.heap.size → w1.heap[k]? = w.heap[k]?) {a : Addr} {v : Value} (h : w.cell? a = some v) : w1.cell? a = some v := by
 have := hb a.block (World.block_lt_of_cell? w a h)
 simpa [World.cell?, this] using h
theorem Heap.C {α : Type} {d : Kd α} (hd : Heap d) {w w1 : World} {A : Option Addr} {n : Nat} {xs : List α} (hb : ∀ k, k < w.heap.size → w1.heap[k]? = w.heap[k]?) (h : d.C w A n xs) : d.C w1 A n xs :=
 ⟨h.1, h.2.1, fun hn => by
  obtain ⟨ad, e, hc⟩ := h.2.2 hn
  refine ⟨ad, e, fun j p hj => ?_⟩
  obtain ⟨c, hs, hr, hcell⟩ := hc j p hj
  exact ⟨c, hs, hd.K hb hr, fun i u hu => Cl1 hb (hcell i u hu)⟩⟩
theorem Bb0 (k : IntKind) : Heap (Kd.int k) := ⟨fun _ h => h⟩
theorem Aw1 : Heap Kd.bool := ⟨fun _ h => h⟩
theorem Ao4 {α : Type} {d : Kd α} (e : Nat) (hd : Heap d) : Heap (slice e d) := ⟨by
 rintro w w1 x cs hb ⟨A, c, rfl, hl, hr⟩
 exact ⟨A, c, rfl, hl, hd.C hb hr⟩⟩
theorem Aj5 {α β : Type} {a : Kd α} {b : Kd β} (ha : Heap a) (hb' : Heap b) : Heap (pair a b) := ⟨by
 rintro w w1 x cs hb ⟨c0, c1, rfl, h0, h1⟩
 exact ⟨c0, c1, rfl, ha.K hb h0, hb'.K hb h1⟩⟩
theorem Aw0 {α β : Type} {d : Kd α} (f : β → α) (hd : Heap d) : Heap (iso d f) := ⟨fun hb h => hd.K hb h⟩
end Kd
end Go.Proofs.YtohlmkcgempdlaaGreatDoorW.PrintWords
namespace Go.Proofs.YtohlmkcgempdlaaGreatDoorW.PrintWords
open Go.RowKit
def Foot (P : World → Prop) (W : World) (ok : Nat → Prop) : Prop := ∀ W' : World, (∀ k, ok k → k < W.heap.size → W'.heap[k]? = W.heap[k]?) → P W'
theorem heap_lt {W W1 : World} {k : Nat} (h : W1.heap[k]? = W.heap[k]?) (hlt : k < W.heap.size) : k < W1.heap.size := by
 rw [Array.getElem?_eq_getElem hlt] at h
 exact (Array.getElem?_eq_some_iff.1 h).1
namespace Foot
variable {P Q : World → Prop} {W W1 : World} {ok ok' : Nat → Prop}
theorem now (h : Foot P W ok) : P W := h W (fun _ _ _ => rfl)
theorem mono (h : Foot P W ok) (hok : ∀ k, ok k → ok' k) : Foot P W ok' := fun W' hW => h W' (fun k hk hlt => hW k (hok k hk) hlt)
theorem Cd9 (h : Foot P W ok) : Foot P W (fun k => ok k ∧ k < W.heap.size) := fun W' hW => h W' (fun k hk hlt => hW k ⟨hk, hlt⟩ hlt)
theorem step (h : Foot P W ok) (hm : ∀ k, ok k → k < W.heap.size → W1.heap[k]? = W.heap[k]?) : Foot P W1 ok := fun W' hW => h W' (fun k hk hlt => (hW k hk (heap_lt (hm k hk hlt) hlt)).trans (hm k hk hlt))
theorem imp (h : Foot P W ok) (hi : ∀ W', P W' → Q W') : Foot Q W ok := fun W' hW => hi W' (h W' hW)
end Foot
namespace Kd
def F {α : Type} (d : Kd α) (W : World) (ok : Nat → Prop) (A : Option Addr) (n : Nat) (xs : List α) : Prop := Foot (fun W => d.C W A n xs) W ok
def FK {α : Type} (d : Kd α) (W : World) (ok : Nat → Prop) (x : α) (c : List Value) : Prop := Foot (fun W => d.K W x c) W ok
section
variable {α β : Type} {d : Kd α} {e base n n' cc g N : Nat} {ok ok' okp S : Nat → Prop} {w w0 w1 W W1 : World} {A A' : Option Addr} {u v v1 : Value} {xs : List α} {xs' : List β} {d' : Kd β} {x : α} {c : List Value}
theorem F_now (h : F d W ok A n xs) : d.C W A n xs := Foot.now h
theorem Ca0 (h : F d W ok A n xs) (hok : ∀ k, ok k → ok' k) : F d W ok' A n xs := Foot.mono h hok
theorem Cn0 (h : F d W ok A n xs) : F d W (fun k => ok k ∧ k < W.heap.size) A n xs := Foot.Cd9 h
theorem F_step (h : F d W ok A n xs) (hm : ∀ k, ok k → k < W.heap.size → W1.heap[k]? = W.heap[k]?) : F d W1 ok A n xs := Foot.step h hm
theorem F_imp (h : F d W ok A n xs) (hi : ∀ W', d.C W' A n xs → d'.C W' A' n' xs') : F d' W ok A' n' xs' := Foot.imp h hi
theorem Cn1 (h : F d W ok A n xs) (hb : Below W.heap.size W W1) : F d W1 ok A n xs := F_step h (fun k _ hlt => hb.block k hlt)
theorem F_nil (d : Kd α) (W : World) (ok : Nat → Prop) : F d W ok none ([] : List α).length [] := fun W' _ => Az9 d W'
theorem C_F (hd : Heap d) (h : d.C w A n xs) : F d w (fun k => k < w.heap.size) A n xs := fun _ hW => hd.C (fun k hlt => hW k hlt hlt) h
theorem R_F (h : d.R e W base ok (.slice A n cc) xs) : F d W ok A n xs := fun W' hW => by
 have h2 := Ai1 (Aw5 h hW)
 rw [h2.1]
 exact h2.2.2
theorem Ah4 (h : FK d W ok x c) : d.K W x c := Foot.now h
theorem As1 (h : FK d W ok x c) (hok : ∀ k, ok k → ok' k) : FK d W ok' x c := Foot.mono h hok
theorem At3 (h : FK d W ok x c) : FK d W (fun k => ok k ∧ k < W.heap.size) x c := Foot.Cd9 h
theorem Al0 (h : FK d W ok x c) (hm : ∀ k, ok k → k < W.heap.size → W1.heap[k]? = W.heap[k]?) : FK d W1 ok x c := Foot.step h hm
theorem An5 (h : FK d W ok x c) (hb : Below W.heap.size W W1) : FK d W1 ok x c := Al0 h (fun k _ hlt => hb.block k hlt)
theorem FK_of_M (h : d.M W base ok x c) : FK d W ok x c := fun _ hW => d.K_of_M (M_step h hW)
theorem emptied (W : World) (g : Nat) : ∃ W' : World, (∀ k, k ≠ g → W'.heap[k]? = W.heap[k]?) ∧ ∀ a : Addr, a.block = g → W'.cell? a = none := by
 refine ⟨{ W with heap := W.heap.setIfInBounds g (.cells #[] 0) }, fun k hk => by simp [Ne.symm hk], fun a ha => ?_⟩
 subst ha
 by_cases hlt : a.block < W.heap.size
 ·simp [World.cell?, hlt]
 ·simp [World.cell?, hlt]
end
end Kd
end Go.Proofs.YtohlmkcgempdlaaGreatDoorW.PrintWords
namespace Go.Proofs.YtohlmkcgempdlaaGreatDoorW.PrintWords
open Go.RowKit
namespace Kd
def Az1 (sz : Nat) (n : Nat) (inner : List Value) : List (List Value) := (List.range n).map fun j => (inner.drop (j * sz)).take sz
theorem Af3 (sz n : Nat) (inner : List Value) : (Az1 sz n inner).length = n := by simp [Az1]
theorem Ck9 {sz n : Nat} {inner : List Value} {j : Nat} (hj : j < n) : (Az1 sz n inner)[j]? = some ((inner.drop (j * sz)).take sz) := by simp [Az1, hj]
theorem At1 {sz n : Nat} {inner : List Value} {j : Nat} {c : List Value} (h : (Az1 sz n inner)[j]? = some c) : c = (inner.drop (j * sz)).take sz := by
 have hj : j < n := by have := (List.getElem?_eq_some_iff.1 h).1; rwa [Af3] at this
 rw [Ck9 hj] at h
 injection h with h
 exact h.symm
theorem reps_raw {α : Type} {Rr : α → List Value → Prop} {sz : Nat} {xs : List α} {inner : List Value} (h : Reps Rr sz xs inner) (hR : ∀ x c, Rr x c → c.length = sz ∧ ∀ u ∈ c, u.oneCell' = true) : Reps (fun x cs => cs = x ∧ cs.length = sz ∧ ∀ u ∈ cs, u.oneCell' = true) sz (Az1 sz xs.length inner) inner := by
 refine ⟨by rw [Af3]; exact h.1, fun j p hj => ?_⟩
 have hjl : j < xs.length := by have := (List.getElem?_eq_some_iff.1 hj).1; rwa [Af3] at this
 have hp := At1 hj
 exact ⟨hp.symm, hR _ _ (h.2 j _ (List.getElem?_eq_getElem hjl))⟩
section
variable {α : Type} {d : Kd α} {e base n cc g : Nat} {ok ok' okp S : Nat → Prop} {w w1 W W1 : World} {A : Option Addr} {u v v1 : Value} {xs : List α} {x : α} {c : List Value}
theorem F_get (h : F d W ok A n xs) (z : α) (i : Int) (h0 : 0 ≤ i) (h1 : i < n) :
  ∃ ad c, A = some ad ∧ c.length = d.sz ∧ FK d W ok (xs.getD i.toNat z) c ∧ (∀ j u, c[j]? = some u → W.cell? (ad.add (i.toNat * d.sz + j)) = some u) ∧ (0 < d.sz → ok ad.block) := by
 obtain ⟨ad, c, rfl, hcl, hK, hcc⟩ := Bh6 (F_now h) z i h0 h1
 have hin : 0 < d.sz → ok ad.block := by
  intro hs
  by_cases hk : ok ad.block
  ·exact hk
  ·obtain ⟨W', h2, h3⟩ := emptied W ad.block
   obtain ⟨ad', c', he, hcl', _, hcc'⟩ := Bh6 (h W' (fun k hk' _ => h2 k (fun e => hk (e ▸ hk')))) z i h0 h1
   injection he with he
   subst he
   have h4 := hcc' 0 _ (List.getElem?_eq_getElem (by omega))
   rw [h3 _ (Bf9 _ _)] at h4
   cases h4
 refine ⟨ad, c, rfl, hcl, fun W' hW => ?_, hcc, hin⟩
 obtain ⟨ad', c', he, hcl', hK', hcc'⟩ := Bh6 (h W' hW) z i h0 h1
 injection he with he
 subst he
 have hc : c = c' := by
  apply List.ext_getElem?
  intro j
  by_cases hj : j < d.sz
  ·have hb : W'.heap[ad.block]? = W.heap[ad.block]? := by
    have h5 := hcc j _ (List.getElem?_eq_getElem (by omega))
    have h6 := World.block_lt_of_cell? W _ h5
    rw [Bf9] at h6
    exact hW _ (hin (by omega)) h6
   have h5 := hcc j _ (List.getElem?_eq_getElem (by omega))
   have h6 := hcc' j _ (List.getElem?_eq_getElem (by omega))
   have h7 : W'.cell? (ad.add (i.toNat * d.sz + j)) = W.cell? (ad.add (i.toNat * d.sz + j)) := by simp [World.cell?, Bf9, hb]
   rw [h7, h5] at h6
   rw [List.getElem?_eq_getElem (by omega), List.getElem?_eq_getElem (by omega)]
   exact h6
  ·rw [List.getElem?_eq_none (by omega), List.getElem?_eq_none (by omega)]
 rw [hc]
 exact hK'
theorem Bg3 (h : F d W ok A n xs) : Ac9 (fun x c => FK d W ok x c) d.sz W A n xs := by
 obtain ⟨hl, hm, hn⟩ := F_now h
 refine ⟨hl, hm, fun hp => ?_⟩
 obtain ⟨ad, rfl, _⟩ := hn hp
 refine ⟨ad, rfl, fun j p hj => ?_⟩
 obtain ⟨hjl, hjp⟩ := List.getElem?_eq_some_iff.1 hj
 obtain ⟨ad', c, he, hcl, hK, hcc, _⟩ := F_get h p (j : Int) (by omega) (by omega)
 injection he with he
 subst he
 simp only [Int.toNat_natCast] at hK hcc
 rw [List.getD_eq_getElem?_getD, hj] at hK
 exact ⟨c, hcl, hK, hcc⟩
def N {α : Type} (d : Kd α) (e : Nat) (w : World) (base : Nat) (ok : Nat → Prop) (v : Value) (xs : List α) : Prop :=
 (∀ k, v.ownBlock = some k → ok k) ∧ ∃ rows : List (List Value), rows.length = xs.length ∧ (raw d.sz).R e w base (fun k => some k = v.ownBlock) v rows ∧ ∀ (j : Nat) (x : α) (c : List Value), xs[j]? = some x → rows[j]? = some c → FK d w (fun k => ok k ∧ some k ≠ v.ownBlock) x c
theorem Cf9 {sz : Nat} {rows : List (List Value)} (h : (raw sz).R e w base ok v rows) : (raw sz).R e w base (fun k => some k = v.ownBlock) v rows := Bx3 rfl h
theorem Cg0 {sz : Nat} {rows : List (List Value)} (h : (raw sz).R e w base ok v rows) : (raw sz).R e w base (fun _ => True) v rows := Af7 h (fun _ _ => trivial)
theorem R_N (h : d.R e w base ok v xs) : N d e w base ok v xs := by
 obtain ⟨h0, inner, ho, hr⟩ := h
 refine ⟨h0, Az1 d.sz xs.length inner, Af3 _ _ _, ⟨fun k hk => hk.symm, inner, by rw [Af3]; exact ho, reps_raw hr (fun x c hp => ⟨d.K_len (d.K_of_M hp), d.K_one (d.K_of_M hp)⟩)⟩, fun j x c hx hc => ?_⟩
 rw [At1 hc]
 exact FK_of_M (hr.2 j x hx)
theorem N_nil (d : Kd α) (e : Nat) (w : World) (base : Nat) (ok : Nat → Prop) : N d e w base ok (.slice none 0 0) [] := R_N (Aj9 _ _ _ _ _)
theorem N_lt (h : N d e w base ok v xs) : ∀ k, v.ownBlock = some k → k < w.heap.size := by
 obtain ⟨_, rows, _, hR, _⟩ := h
 exact R_lt hR
theorem Bz8 (h : N d e w base ok v xs) : ∀ k, v.ownBlock = some k → base ≤ k := by
 obtain ⟨_, rows, _, hR, _⟩ := h
 exact Ar9 hR
theorem N_ne (h : N d e w base ok v xs) {t : Nat} {cells : Array Value} (hb : w.heap[g]? = some (.cells cells t (0, 0))) (ht : e ≠ t) : some g ≠ v.ownBlock := by
 obtain ⟨_, rows, _, hR, _⟩ := h
 exact R_ne hR hb ht
theorem Cm6 (h : N d e w base ok v xs) (hm : ∀ k, ok k → k < w.heap.size → w1.heap[k]? = w.heap[k]?) : N d e w1 base ok v xs := by
 obtain ⟨h0, rows, hl, hR, hf⟩ := h
 exact ⟨h0, rows, hl, Aw5 hR (fun k hk hlt => hm k (h0 k hk.symm) hlt), fun j x c hx hc => Al0 (hf j x c hx hc) (fun k hk hlt => hm k hk.1 hlt)⟩
theorem Bg2 (h : N d e w base ok v xs) (hb : Below w.heap.size w w1) : N d e w1 base ok v xs := Cm6 h (fun k _ hk => hb.block k hk)
theorem N_far (h : N d e w base ok v xs) {p : Addr} (hok : ∀ k, ok k → k ≠ p.block) (u : Value) : N d e (w.setCell p u) base ok v xs := Cm6 h (fun k ho _ => Below.heap_setCell w p u k (hok k ho))
theorem As0 (h : N d e w base ok v xs) : ∃ A c, v = .slice A xs.length c := by
 obtain ⟨_, rows, hl, hR, _⟩ := h
 obtain ⟨A, c, he⟩ := Aa9 hR
 exact ⟨A, c, by rw [he, hl]⟩
theorem Bn0 {n c : Nat} (h : N d e w base ok (.slice A n c) xs) : n = xs.length ∧ n ≤ c ∧ d.C w A xs.length xs := by
 obtain ⟨_, rows, hl, hR, hf⟩ := h
 obtain ⟨hn, hc, hC⟩ := Ai1 hR
 refine ⟨by omega, hc, ?_⟩
 rw [hl] at hC
 refine ⟨rfl, hC.2.1, fun hp => ?_⟩
 obtain ⟨ad, he, hcell⟩ := hC.2.2 hp
 refine ⟨ad, he, fun j p hj => ?_⟩
 have hjl : j < rows.length := by have := (List.getElem?_eq_some_iff.1 hj).1; omega
 obtain ⟨c', hcl, hK, hcc⟩ := hcell j _ (List.getElem?_eq_getElem hjl)
 have hk := Ah4 (hf j p _ hj (List.getElem?_eq_getElem hjl))
 refine ⟨c', hcl, ?_, hcc⟩
 rw [show c' = rows[j] from hK.1]
 exact hk
theorem N_F {n : Nat} (h : N d e w base ok (.slice A n cc) xs) : F d w ok A n xs := fun W' hW => by
 have h2 := Bn0 (Cm6 h hW)
 rw [h2.1]
 exact h2.2.2
end
end Kd
end Go.Proofs.YtohlmkcgempdlaaGreatDoorW.PrintWords
