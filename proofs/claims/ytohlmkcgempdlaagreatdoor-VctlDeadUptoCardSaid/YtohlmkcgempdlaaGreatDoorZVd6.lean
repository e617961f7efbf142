/- Parts of the proof of vctlDead_holds (6 of 24): what it says and shows stands at its declarations. -/
import Derived.Test.YtohlmkcgempdlaaGreatDoorZVd5
import Derived.Test.YtohlmkcgempdlaaGreatDoorRows
import Derived.OpenShut
namespace Go.Proofs.YtohlmkcgempdlaaGreatDoor.Opb
open Go.RowKit Go.Proofs.YtohlmkcgempdlaaGreatDoorW.PrintWords
theorem mapM_get {β γ : Type} {f : β → Option γ} : ∀ {l : List β} {r : List γ}, l.mapM f = some r → r.length = l.length ∧ ∀ (j : Nat) (b : β), l[j]? = some b → ∃ c, r[j]? = some c ∧ f b = some c
 | [], r, h => by
  simp at h
  subst h
  exact ⟨rfl, fun j b h => by simp at h⟩
 | b :: l, r, h => by
  rw [List.mapM_cons] at h
  cases hb : f b with
  | none => rw [hb] at h; simp at h
  | some c =>
   rw [hb] at h
   cases hl : l.mapM f with
   | none => rw [hl] at h; simp at h
   | some r' =>
    rw [hl] at h
    simp at h
    subst h
    obtain ⟨h1, h2⟩ := mapM_get hl
    refine ⟨by simp [h1], fun j b' hj => ?_⟩
    cases j with
    | zero => simp at hj; subst hj; exact ⟨c, rfl, hb⟩
    | succ j => exact h2 j b' (by simpa using hj)
theorem exists_list {α : Type} {p : Nat → α → Prop} : ∀ (n : Nat), (∀ j, j < n → ∃ x, p j x) → ∃ xs : List α, xs.length = n ∧ ∀ (j : Nat) (x : α), xs[j]? = some x → p j x
 | 0, _ => ⟨[], rfl, fun j x h => by simp at h⟩
 | n + 1, h => by
  obtain ⟨xs, h1, h2⟩ := exists_list n (fun j hj => h j (by omega))
  obtain ⟨x, hx⟩ := h n (by omega)
  refine ⟨xs ++ [x], by simp [h1], fun j y hj => ?_⟩
  rcases Nat.lt_or_ge j xs.length with hl | hl
  ·rw [List.getElem?_append_left hl] at hj
   exact h2 j y hj
  ·have e : j = n := by
    have := (List.getElem?_eq_some_iff.1 hj).1
    simp at this
    omega
   subst e
   rw [List.getElem?_append_right hl] at hj
   simp [h1] at hj
   subst hj
   exact hx
theorem cells_get {w : World} {base : Nat} {a : Addr} {n : Nat} {cs : List Value} (h : w.cells? base a n = some cs) : base ≤ a.block ∧ cs.length = n ∧ ∀ (i : Nat) (u : Value), cs[i]? = some u → w.cell? (a.add i) = some u := by
 unfold World.cells? at h
 split at h
 ·rename_i hb
  obtain ⟨h1, h2⟩ := mapM_get h
  simp at h1
  refine ⟨hb, h1, fun i u hu => ?_⟩
  have hi : i < n := by have := (List.getElem?_eq_some_iff.1 hu).1; omega
  obtain ⟨c, hc, hcell⟩ := h2 i i (by simp [hi])
  rw [hu] at hc
  injection hc with hc
  subst hc
  exact hcell
 ·cases h
theorem bulk_one {H : Type} (d : DataW H) : 1 ≤ Rows.uptoBulk d := by
 cases d with
 | lit l => cases l <;> simp [Rows.uptoBulk]
 | nil => simp [Rows.uptoBulk]
 | ptr d => simp [Rows.uptoBulk]
 | slice elems spare => simp [Rows.uptoBulk]
 | agg parts => simp [Rows.uptoBulk]
 | iface t d => simp [Rows.uptoBulk]
 | map entries => simp [Rows.uptoBulk]
 | held h => simp [Rows.uptoBulk]
theorem sum_bulk {α H : Type} (bk : α → Nat) : ∀ (xs : List α) (ds : List (DataW H)), xs.length = ds.length → (∀ (j : Nat) (x : α) (d : DataW H), xs[j]? = some x → ds[j]? = some d → bk x ≤ Rows.uptoBulk d) → (xs.map bk).sum ≤ Rows.uptoBulkAll ds
 | [], [], _, _ => by simp [Rows.uptoBulkAll]
 | [], d :: ds, h, _ => by simp at h
 | x :: xs, [], h, _ => by simp at h
 | x :: xs, d :: ds, h, hb => by
  have h1 := hb 0 x d rfl rfl
  have h2 := sum_bulk bk xs ds (by simpa using h) (fun j x' d' hx hd => hb (j + 1) x' d' (by simpa using hx) (by simpa using hd))
  simp only [List.map_cons, List.sum_cons, Rows.uptoBulkAll]
  omega
/-- A value of type t that a row reads is of kind d; B: what is known of it besides; bk: how much it holds at least. -/
structure Opb {α : Type} (P : Program) (t : TypeId) (d : Kd α) (B : α → Prop) (bk : α → Nat) : Prop where
 sz : P.cellsOf t = d.sz
 op : ∀ {H : Type} {enc : TypeId × Value → H} {W : World} {base : Nat} {spare : Nat → Bool} {held : Bool} {fuel : Nat} {cs : List Value} {dd : DataW H} {ps : List MemPlace},
  DataW.trod enc P W base spare held fuel t cs = some (dd, ps) → ∃ x, d.K W x cs ∧ B x ∧ bk x ≤ Rows.uptoBulk dd
theorem Opb.int {P : Program} {t : TypeId} {k : IntKind} (hu : P.underlying t = some (.int k)) (hc : P.cellsOf t = 1) : Opb P t (Kd.int k) (fun x => (Lit.int k x).wf = true) (fun _ => 1) := by
 refine ⟨hc, ?_⟩
 intro H enc W base spare held fuel cs dd ps h
 cases fuel with
 | zero => simp [DataW.trod] at h
 | succ fuel =>
  unfold DataW.trod at h
  rw [hu] at h
  match cs, h with
  | [.int k' n], h =>
   simp at h
   obtain ⟨⟨rfl, hw⟩, _⟩ := h
   exact ⟨n, rfl, hw, bulk_one _⟩
theorem Opb.bool {P : Program} {t : TypeId} (hu : P.underlying t = some .bool) (hc : P.cellsOf t = 1) : Opb P t Kd.bool (fun _ => True) (fun _ => 1) := by
 refine ⟨hc, ?_⟩
 intro H enc W base spare held fuel cs dd ps h
 cases fuel with
 | zero => simp [DataW.trod] at h
 | succ fuel =>
  unfold DataW.trod at h
  rw [hu] at h
  match cs, h with
  | [.bool b], h => exact ⟨b, rfl, trivial, bulk_one _⟩
theorem Opb.slice {α : Type} {P : Program} {t e : TypeId} {d : Kd α} {B : α → Prop} {bk : α → Nat} (hu : P.underlying t = some (.slice e)) (hc : P.cellsOf t = 1) (ho : Opb P e d B bk) :
  Opb P t (Kd.slice e d) (fun xs => ∀ x ∈ xs, B x) (fun xs => (xs.map bk).sum + 1) := by
 refine ⟨hc, ?_⟩
 intro H enc W base spare held fuel cs dd ps h
 cases fuel with
 | zero => simp [DataW.trod] at h
 | succ fuel =>
  unfold DataW.trod at h
  rw [hu] at h
  match cs, h with
  | [.slice none 0 0], h => exact ⟨[], ⟨none, 0, rfl, Nat.le_refl _, Kd.C_nil d W⟩, fun x hx => by simp at hx, bulk_one _⟩
  | [.slice (some a) len cap], h =>
   dsimp only at h
   split at h
   ·rename_i hcond
    cases hm : (List.range len).mapM (fun i => (W.cells? base (a.add (i * P.cellsOf e)) (P.cellsOf e)).bind (DataW.trod enc P W base spare held fuel e)) with
    | none => rw [hm] at h; simp at h
    | some elems =>
     rw [hm] at h
     simp only [Option.bind_some, Option.map_eq_some_iff] at h
     obtain ⟨rest, _, h⟩ := h
     obtain ⟨rfl, _⟩ := Prod.mk.inj h
     obtain ⟨h1, h2⟩ := mapM_get hm
     simp only [List.length_range] at h1
     have key : ∀ j, j < len → ∃ x, ∃ c, c.length = d.sz ∧ d.K W x c ∧ (∀ (i : Nat) (u : Value), c[i]? = some u → W.cell? (a.add (j * d.sz + i)) = some u) ∧ B x ∧ ∀ y, elems[j]? = some y → bk x ≤ Rows.uptoBulk y.1 := by
      intro j hj
      obtain ⟨y, hy, hf⟩ := h2 j j (by simp [hj])
      simp only [Option.bind_eq_some_iff] at hf
      obtain ⟨c, hc1, hc2⟩ := hf
      obtain ⟨_, hcl, hcc⟩ := cells_get hc1
      obtain ⟨x, hx, hBx, hbk⟩ := ho.op (dd := y.1) (ps := y.2) hc2
      refine ⟨x, c, by rw [hcl, ho.sz], hx, fun i u hu => ?_, hBx, fun y' hy' => ?_⟩
      ·have := hcc i u hu
       rw [Addr.add_add, ho.sz] at this
       exact this
      ·rw [hy] at hy'
       injection hy' with hy'
       subst hy'
       exact hbk
     obtain ⟨xs, hl, hxs⟩ := exists_list len key
     refine ⟨xs, ⟨some a, cap, by rw [hl], by rw [hl]; exact hcond.2.1, ⟨rfl, ?_, fun hpos => ⟨a, rfl, fun j p hj => ?_⟩⟩⟩, fun x hx => ?_, ?_⟩
     ·have := hcond.2.2
      have := hcond.2.1
      simp only [maxLen] at *
      omega
     ·obtain ⟨c, hc1, hc2, hc3, _⟩ := hxs j p hj
      exact ⟨c, hc1, hc2, hc3⟩
     ·obtain ⟨j, hj, rfl⟩ := List.mem_iff_getElem.1 hx
      obtain ⟨c, _, _, _, hB, _⟩ := hxs j _ (List.getElem?_eq_getElem hj)
      exact hB
     ·have := sum_bulk bk xs (elems.map (·.1)) (by rw [hl, List.length_map, h1]) (fun j x d' hx hd => by
       rw [List.getElem?_map, Option.map_eq_some_iff] at hd
       obtain ⟨y, hy, rfl⟩ := hd
       obtain ⟨c, _, _, _, _, hb⟩ := hxs j x hx
       exact hb y hy)
      simp only [Rows.uptoBulk]
      omega
   ·cases h
/-- The fields of a struct from one on. -/
structure OpbF {α : Type} (P : Program) (fs : List Field) (off : Nat) (d : Kd α) (B : α → Prop) (bk : α → Nat) : Prop where
 op : ∀ {H : Type} {enc : TypeId × Value → H} {W : World} {base : Nat} {spare : Nat → Bool} {held : Bool} {fuel : Nat} {cs : List Value} {xs : List (DataW H × List MemPlace)},
  (fs.mapM fun f => DataW.trod enc P W base spare held fuel f.type ((cs.drop f.offset).take (P.cellsOf f.type))) = some xs → 
   cs.length = off + d.sz → ∃ x, d.K W x (cs.drop off) ∧ B x ∧ bk x ≤ Rows.uptoBulkAll (xs.map (·.1))
theorem OpbF.last {α : Type} {P : Program} {f : Field} {off : Nat} {d : Kd α} {B : α → Prop} {bk : α → Nat} (h : Opb P f.type d B bk) (ho : f.offset = off) : OpbF P [f] off d B bk := by
 refine ⟨?_⟩
 intro H enc W base spare held fuel cs xs hx hl
 rw [List.mapM_cons] at hx
 cases hf : DataW.trod enc P W base spare held fuel f.type ((cs.drop f.offset).take (P.cellsOf f.type)) with
 | none => rw [hf] at hx; simp at hx
 | some y =>
  rw [hf] at hx
  simp at hx
  subst hx
  obtain ⟨x, hx, hB, hb⟩ := h.op (dd := y.1) (ps := y.2) hf
  have e : (cs.drop f.offset).take (P.cellsOf f.type) = cs.drop off := by
   rw [ho, h.sz]
   exact List.take_of_length_le (by rw [List.length_drop, hl]; omega)
  rw [e] at hx
  exact ⟨x, hx, hB, by simpa [Rows.uptoBulkAll] using hb⟩
theorem OpbF.cons {α β : Type} {P : Program} {f : Field} {fs : List Field} {off off' : Nat} {d : Kd α} {d' : Kd β} {B : α → Prop} {B' : β → Prop} {bk : α → Nat} {bk' : β → Nat} (h : Opb P f.type d B bk) (ho : f.offset = off) (hs : off + d.sz = off') (h' : OpbF P fs off' d' B' bk') :
  OpbF P (f :: fs) off (Kd.pair d d') (fun x => B x.1 ∧ B' x.2) (fun x => bk x.1 + bk' x.2) := by
 refine ⟨?_⟩
 intro H enc W base spare held fuel cs xs hx hl
 rw [List.mapM_cons] at hx
 cases hf : DataW.trod enc P W base spare held fuel f.type ((cs.drop f.offset).take (P.cellsOf f.type)) with
 | none => rw [hf] at hx; simp at hx
 | some y =>
  rw [hf] at hx
  cases hr : fs.mapM fun f => DataW.trod enc P W base spare held fuel f.type ((cs.drop f.offset).take (P.cellsOf f.type)) with
  | none => rw [hr] at hx; simp at hx
  | some r =>
   rw [hr] at hx
   simp at hx
   subst hx
   have hl' : cs.length = off + (d.sz + d'.sz) := hl
   obtain ⟨x, hx, hB, hb⟩ := h.op (dd := y.1) (ps := y.2) hf
   obtain ⟨z, hz, hB', hb'⟩ := h'.op (cs := cs) hr (by omega)
   refine ⟨(x, z), ⟨(cs.drop off).take d.sz, cs.drop off', ?_, ?_, hz⟩, ⟨hB, hB'⟩, ?_⟩
   ·rw [← hs, ← List.drop_drop, List.take_append_drop]
   ·rw [ho, h.sz] at hx
    exact hx
   ·simp only [List.map_cons, Rows.uptoBulkAll]
    omega
theorem Opb.struct {α : Type} {P : Program} {t : TypeId} {fs : Array Field} {d : Kd α} {B : α → Prop} {bk : α → Nat} (hu : P.underlying t = some (.struct fs)) (hc : P.cellsOf t = d.sz) (h : OpbF P fs.toList 0 d B bk) : Opb P t d B (fun x => bk x + 1) := by
 refine ⟨hc, ?_⟩
 intro H enc W base spare held fuel cs dd ps ht
 cases fuel with
 | zero => simp [DataW.trod] at ht
 | succ fuel =>
  unfold DataW.trod at ht
  rw [hu] at ht
  have ht' : (if cs.length = P.cellsOf t then (fs.toList.mapM fun f => DataW.trod enc P W base spare held fuel f.type ((cs.drop f.offset).take (P.cellsOf f.type))).map fun xs => (DataW.agg (xs.map (·.1)), xs.flatMap (·.2)) else none) = some (dd, ps) := by
   cases cs with
   | nil => exact ht
   | cons c cs => cases c <;> exact ht
  clear ht
  split at ht'
  ·rename_i hcs
   simp only [Option.map_eq_some_iff] at ht'
   obtain ⟨xs, hxs, h2⟩ := ht'
   obtain ⟨rfl, _⟩ := Prod.mk.inj h2
   obtain ⟨x, hx, hB, hb⟩ := h.op hxs (by omega)
   exact ⟨x, by simpa using hx, hB, by simp only [Rows.uptoBulk]; omega⟩
  ·cases ht'
theorem Opb.iso {α β : Type} {P : Program} {t : TypeId} {d : Kd α} {B : α → Prop} {bk : α → Nat} (h : Opb P t d B bk) (f : β → α) (g : α → β) (hg : ∀ a, f (g a) = a) : Opb P t (Kd.iso d f) (fun y => B (f y)) (fun y => bk (f y)) := by
 refine ⟨h.sz, ?_⟩
 intro H enc W base spare held fuel cs dd ps ht
 obtain ⟨x, hx, hB, hb⟩ := h.op ht
 refine ⟨g x, ?_, ?_, ?_⟩
 ·show d.K W (f (g x)) cs
  rw [hg]
  exact hx
 ·rw [hg]
  exact hB
 ·rw [hg]
  exact hb
theorem Opb.imp {α : Type} {P : Program} {t : TypeId} {d : Kd α} {B B' : α → Prop} {bk bk' : α → Nat} (h : Opb P t d B bk) (hb : ∀ x, B x → B' x) (hk : ∀ x, bk' x ≤ bk x) : Opb P t d B' bk' :=
 ⟨h.sz, fun ht => let ⟨x, hx, hB, hl⟩ := h.op ht; ⟨x, hx, hb x hB, Nat.le_trans (hk x) hl⟩⟩
/-- A parameter of a row. -/
theorem Opb.param {α H : Type} {P : Program} {t : TypeId} {d : Kd α} {B : α → Prop} {bk : α → Nat} (h : Opb P t d B bk) {enc : TypeId × Value → H} {W : World} {base : Nat} {spare : Nat → Bool} {held : Bool} {v : Value} {dd : DataW H} {ps : List MemPlace}
  (hv : DataW.Trod enc P W base spare held t v dd ps) : ∃ x, d.K W x v.cells.toList ∧ B x ∧ bk x ≤ Rows.uptoBulk dd := by
 obtain ⟨fuel, hf⟩ := hv
 exact h.op hf
end Go.Proofs.YtohlmkcgempdlaaGreatDoor.Opb
