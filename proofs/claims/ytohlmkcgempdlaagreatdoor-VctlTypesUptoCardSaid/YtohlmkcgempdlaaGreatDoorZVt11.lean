/- Parts of the proof of vctlTypes_holds (11 of 12): what it says and shows stands at its declarations. -/
import Derived.Test.YtohlmkcgempdlaaGreatDoorZVt10
import Derived.Test.YtohlmkcgempdlaaGreatDoorRows
import Derived.OpenShut
namespace Go.Proofs.YtohlmkcgempdlaaGreatDoor.Opb
open Go.RowKit Go.Proofs.YtohlmkcgempdlaaGreatDoorW.PrintWords
theorem mapM_get {β γ : Type} {f : β → Option γ} : ∀ {l : List β} {r : List γ}, l.mapM f = some r → r.length = l.length ∧ ∀ (j : Nat) (b : β), l[j]? = some b → ∃ c, r[j]? = some c ∧ f b = some c
  | [], r, h => by
    simp at h
    subst h
    exact ⟨rfl, fun j b h => by simp at h⟩
  | b :: l, r, h => by
    rw [List.mapM_cons] at h
    cases hb : f b with
    | none => rw [hb] at h; simp at h
    | some c =>
      rw [hb] at h
      cases hl : l.mapM f with
      | none => rw [hl] at h; simp at h
      | some r' =>
        rw [hl] at h
        simp at h
        subst h
        obtain ⟨h1, h2⟩ := mapM_get hl
        refine ⟨by simp [h1], fun j b' hj => ?_⟩
        cases j with
        | zero => simp at hj; subst hj; exact ⟨c, rfl, hb⟩
        | succ j => exact h2 j b' (by simpa using hj)
theorem exists_list {α : Type} {p : Nat → α → Prop} : ∀ (n : Nat), (∀ j, j < n → ∃ x, p j x) → ∃ xs : List α, xs.length = n ∧ ∀ (j : Nat) (x : α), xs[j]? = some x → p j x
  | 0, _ => ⟨[], rfl, fun j x h => by simp at h⟩
  | n + 1, h => by
    obtain ⟨xs, h1, h2⟩ := exists_list n (fun j hj => h j (by omega))
    obtain ⟨x, hx⟩ := h n (by omega)
    refine ⟨xs ++ [x], by simp [h1], fun j y hj => ?_⟩
    rcases Nat.lt_or_ge j xs.length with hl | hl
    · rw [List.getElem?_append_left hl] at hj
      exact h2 j y hj
    · have e : j = n := by
        have := (List.getElem?_eq_some_iff.1 hj).1
        simp at this
        omega
      subst e
      rw [List.getElem?_append_right hl] at hj
      simp [h1] at hj
      subst hj
      exact hx
theorem cells_get {w : World} {base : Nat} {a : Addr} {n : Nat} {cs : List Value} (h : w.cells? base a n = some cs) : base ≤ a.block ∧ cs.length = n ∧ ∀ (i : Nat) (u : Value), cs[i]? = some u → w.cell? (a.add i) = some u := by
  unfold World.cells? at h
  split at h
  · rename_i hb
    obtain ⟨h1, h2⟩ := mapM_get h
    simp at h1
    refine ⟨hb, h1, fun i u hu => ?_⟩
    have hi : i < n := by have := (List.getElem?_eq_some_iff.1 hu).1; omega
    obtain ⟨c, hc, hcell⟩ := h2 i i (by simp [hi])
    rw [hu] at hc
    injection hc with hc
    subst hc
    exact hcell
  · cases h
theorem bulk_one {H : Type} (d : DataW H) : 1 ≤ Rows.uptoBulk d := by
  cases d with
  | lit l => cases l <;> simp [Rows.uptoBulk]
  | nil => simp [Rows.uptoBulk]
  | ptr d => simp [Rows.uptoBulk]
  | slice elems spare => simp [Rows.uptoBulk]
  | agg parts => simp [Rows.uptoBulk]
  | iface t d => simp [Rows.uptoBulk]
  | map entries => simp [Rows.uptoBulk]
  | held h => simp [Rows.uptoBulk]
theorem sum_bulk {α H : Type} (bk : α → Nat) : ∀ (xs : List α) (ds : List (DataW H)), xs.length = ds.length → (∀ (j : Nat) (x : α) (d : DataW H), xs[j]? = some x → ds[j]? = some d → bk x ≤ Rows.uptoBulk d) → (xs.map bk).sum ≤ Rows.uptoBulkAll ds
  | [], [], _, _ => by simp [Rows.uptoBulkAll]
  | [], d :: ds, h, _ => by simp at h
  | x :: xs, [], h, _ => by simp at h
  | x :: xs, d :: ds, h, hb => by
    have h1 := hb 0 x d rfl rfl
    have h2 := sum_bulk bk xs ds (by simpa using h) (fun j x' d' hx hd => hb (j + 1) x' d' (by simpa using hx) (by simpa using hd))
    simp only [List.map_cons, List.sum_cons, Rows.uptoBulkAll]
    omega
/-- A value of type t that a row reads is of kind d; B: what is known of it besides; bk: how much it holds at least. -/
structure Opb {α : Type} (P : Program) (t : TypeId) (d : Kd α) (B : α → Prop) (bk : α → Nat) : Prop where
  sz : P.cellsOf t = d.sz
  op : ∀ {H : Type} {enc : TypeId × Value → H} {W : World} {base : Nat} {spare : Nat → Bool} {held : Bool} {fuel : Nat} {cs : List Value} {dd : DataW H} {ps : List MemPlace},
    DataW.trod enc P W base spare held fuel t cs = some (dd, ps) → ∃ x, d.K W x cs ∧ B x ∧ bk x ≤ Rows.uptoBulk dd
theorem Opb.int {P : Program} {t : TypeId} {k : IntKind} (hu : P.underlying t = some (.int k)) (hc : P.cellsOf t = 1) : Opb P t (Kd.int k) (fun x => (Lit.int k x).wf = true) (fun _ => 1) := by
  refine ⟨hc, ?_⟩
  intro H enc W base spare held fuel cs dd ps h
  cases fuel with
  | zero => simp [DataW.trod] at h
  | succ fuel =>
    unfold DataW.trod at h
    rw [hu] at h
    match cs, h with
    | [.int k' n], h =>
      simp at h
      obtain ⟨⟨rfl, hw⟩, _⟩ := h
      exact ⟨n, rfl, hw, bulk_one _⟩
theorem Opb.bool {P : Program} {t : TypeId} (hu : P.underlying t = some .bool) (hc : P.cellsOf t = 1) : Opb P t Kd.bool (fun _ => True) (fun _ => 1) := by
  refine ⟨hc, ?_⟩
  intro H enc W base spare held fuel cs dd ps h
  cases fuel with
  | zero => simp [DataW.trod] at h
  | succ fuel =>
    unfold DataW.trod at h
    rw [hu] at h
    match cs, h with
    | [.bool b], h => exact ⟨b, rfl, trivial, bulk_one _⟩
theorem Opb.slice {α : Type} {P : Program} {t e : TypeId} {d : Kd α} {B : α → Prop} {bk : α → Nat} (hu : P.underlying t = some (.slice e)) (hc : P.cellsOf t = 1) (ho : Opb P e d B bk) :
    Opb P t (Kd.slice e d) (fun xs => ∀ x ∈ xs, B x) (fun xs => (xs.map bk).sum + 1) := by
  refine ⟨hc, ?_⟩
  intro H enc W base spare held fuel cs dd ps h
  cases fuel with
  | zero => simp [DataW.trod] at h
  | succ fuel =>
    unfold DataW.trod at h
    rw [hu] at h
    match cs, h with
    | [.slice none 0 0], h => exact ⟨[], ⟨none, 0, rfl, Nat.le_refl _, Kd.C_nil d W⟩, fun x hx => by simp at hx, bulk_one _⟩
    | [.slice (some a) len cap], h =>
      dsimp only at h
      split at h
      · rename_i hcond
        cases hm : (List.range len).mapM (fun i => (W.cells? base (a.add (i * P.cellsOf e)) (P.cellsOf e)).bind (DataW.trod enc P W base spare held fuel e)) with
        | none => rw [hm] at h; simp at h
        | some elems =>
          rw [hm] at h
          simp only [Option.bind_some, Option.map_eq_some_iff] at h
          obtain ⟨rest, _, h⟩ := h
          obtain ⟨rfl, _⟩ := Prod.mk.inj h
          obtain ⟨h1, h2⟩ := mapM_get hm
          simp only [List.length_range] at h1
          have key : ∀ j, j < len → ∃ x, ∃ c, c.length = d.sz ∧ d.K W x c ∧ (∀ (i : Nat) (u : Value), c[i]? = some u → W.cell? (a.add (j * d.sz + i)) = some u) ∧ B x ∧ ∀ y, elems[j]? = some y → bk x ≤ Rows.uptoBulk y.1 := by
            intro j hj
            obtain ⟨y, hy, hf⟩ := h2 j j (by simp [hj])
            simp only [Option.bind_eq_some_iff] at hf
            obtain ⟨c, hc1, hc2⟩ := hf
            obtain ⟨_, hcl, hcc⟩ := cells_get hc1
            obtain ⟨x, hx, hBx, hbk⟩ := ho.op (dd := y.1) (ps := y.2) hc2
            refine ⟨x, c, by rw [hcl, ho.sz], hx, fun i u hu => ?_, hBx, fun y' hy' => ?_⟩
            · have := hcc i u hu
              rw [Addr.add_add, ho.sz] at this
              exact this
            · rw [hy] at hy'
              injection hy' with hy'
              subst hy'
              exact hbk
          obtain ⟨xs, hl, hxs⟩ := exists_list len key
          refine ⟨xs, ⟨some a, cap, by rw [hl], by rw [hl]; exact hcond.2.1, ⟨rfl, ?_, fun hpos => ⟨a, rfl, fun j p hj => ?_⟩⟩⟩, fun x hx => ?_, ?_⟩
          · have := hcond.2.2
            have := hcond.2.1
            simp only [maxLen] at *
            omega
          · obtain ⟨c, hc1, hc2, hc3, _⟩ := hxs j p hj
            exact ⟨c, hc1, hc2, hc3⟩
          · obtain ⟨j, hj, rfl⟩ := List.mem_iff_getElem.1 hx
            obtain ⟨c, _, _, _, hB, _⟩ := hxs j _ (List.getElem?_eq_getElem hj)
            exact hB
          · have := sum_bulk bk xs (elems.map (·.1)) (by rw [hl, List.length_map, h1]) (fun j x d' hx hd => by
              rw [List.getElem?_map, Option.map_eq_some_iff] at hd
              obtain ⟨y, hy, rfl⟩ := hd
              obtain ⟨c, _, _, _, _, hb⟩ := hxs j x hx
              exact hb y hy)
            simp only [Rows.uptoBulk]
            omega
      · cases h
/-- The fields of a struct from one on. -/
structure OpbF {α : Type} (P : Program) (fs : List Field) (off : Nat) (d : Kd α) (B : α → Prop) (bk : α → Nat) : Prop where
  op : ∀ {H : Type} {enc : TypeId × Value → H} {W : World} {base : Nat} {spare : Nat → Bool} {held : Bool} {fuel : Nat} {cs : List Value} {xs : List (DataW H × List MemPlace)},
    (fs.mapM fun f => DataW.trod enc P W base spare held fuel f.type ((cs.drop f.offset).take (P.cellsOf f.type))) = some xs → 
      cs.length = off + d.sz → ∃ x, d.K W x (cs.drop off) ∧ B x ∧ bk x ≤ Rows.uptoBulkAll (xs.map (·.1))
theorem OpbF.last {α : Type} {P : Program} {f : Field} {off : Nat} {d : Kd α} {B : α → Prop} {bk : α → Nat} (h : Opb P f.type d B bk) (ho : f.offset = off) : OpbF P [f] off d B bk := by
  refine ⟨?_⟩
  intro H enc W base spare held fuel cs xs hx hl
  rw [List.mapM_cons] at hx
  cases hf : DataW.trod enc P W base spare held fuel f.type ((cs.drop f.offset).take (P.cellsOf f.type)) with
  | none => rw [hf] at hx; simp at hx
  | some y =>
    rw [hf] at hx
    simp at hx
    subst hx
    obtain ⟨x, hx, hB, hb⟩ := h.op (dd := y.1) (ps := y.2) hf
    have e : (cs.drop f.offset).take (P.cellsOf f.type) = cs.drop off := by
      rw [ho, h.sz]
      exact List.take_of_length_le (by rw [List.length_drop, hl]; omega)
    rw [e] at hx
    exact ⟨x, hx, hB, by simpa [Rows.uptoBulkAll] using hb⟩
theorem OpbF.cons {α β : Type} {P : Program} {f : Field} {fs : List Field} {off off' : Nat} {d : Kd α} {d' : Kd β} {B : α → Prop} {B' : β → Prop} {bk : α → Nat} {bk' : β → Nat} (h : Opb P f.type d B bk) (ho : f.offset = off) (hs : off + d.sz = off') (h' : OpbF P fs off' d' B' bk') :
    OpbF P (f :: fs) off (Kd.pair d d') (fun x => B x.1 ∧ B' x.2) (fun x => bk x.1 + bk' x.2) := by
  refine ⟨?_⟩
  intro H enc W base spare held fuel cs xs hx hl
  rw [List.mapM_cons] at hx
  cases hf : DataW.trod enc P W base spare held fuel f.type ((cs.drop f.offset).take (P.cellsOf f.type)) with
  | none => rw [hf] at hx; simp at hx
  | some y =>
    rw [hf] at hx
    cases hr : fs.mapM fun f => DataW.trod enc P W base spare held fuel f.type ((cs.drop f.offset).take (P.cellsOf f.type)) with
    | none => rw [hr] at hx; simp at hx
    | some r =>
      rw [hr] at hx
      simp at hx
      subst hx
      have hl' : cs.length = off + (d.sz + d'.sz) := hl
      obtain ⟨x, hx, hB, hb⟩ := h.op (dd := y.1) (ps := y.2) hf
      obtain ⟨z, hz, hB', hb'⟩ := h'.op (cs := cs) hr (by omega)
      refine ⟨(x, z), ⟨(cs.drop off).take d.sz, cs.drop off', ?_, ?_, hz⟩, ⟨hB, hB'⟩, ?_⟩
      · rw [← hs, ← List.drop_drop, List.take_append_drop]
      · rw [ho, h.sz] at hx
        exact hx
      · simp only [List.map_cons, Rows.uptoBulkAll]
        omega
theorem Opb.struct {α : Type} {P : Program} {t : TypeId} {fs : Array Field} {d : Kd α} {B : α → Prop} {bk : α → Nat} (hu : P.underlying t = some (.struct fs)) (hc : P.cellsOf t = d.sz) (h : OpbF P fs.toList 0 d B bk) : Opb P t d B (fun x => bk x + 1) := by
  refine ⟨hc, ?_⟩
  intro H enc W base spare held fuel cs dd ps ht
  cases fuel with
  | zero => simp [DataW.trod] at ht
  | succ fuel =>
    unfold DataW.trod at ht
    rw [hu] at ht
    have ht' : (if cs.length = P.cellsOf t then (fs.toList.mapM fun f => DataW.trod enc P W base spare held fuel f.type ((cs.drop f.offset).take (P.cellsOf f.type))).map fun xs => (DataW.agg (xs.map (·.1)), xs.flatMap (·.2)) else none) = some (dd, ps) := by
      cases cs with
      | nil => exact ht
      | cons c cs => cases c <;> exact ht
    clear ht
    split at ht'
    · rename_i hcs
      simp only [Option.map_eq_some_iff] at ht'
      obtain ⟨xs, hxs, h2⟩ := ht'
      obtain ⟨rfl, _⟩ := Prod.mk.inj h2
      obtain ⟨x, hx, hB, hb⟩ := h.op hxs (by omega)
      exact ⟨x, by simpa using hx, hB, by simp only [Rows.uptoBulk]; omega⟩
    · cases ht'
theorem Opb.iso {α β : Type} {P : Program} {t : TypeId} {d : Kd α} {B : α → Prop} {bk : α → Nat} (h : Opb P t d B bk) (f : β → α) (g : α → β) (hg : ∀ a, f (g a) = a) : Opb P t (Kd.iso d f) (fun y => B (f y)) (fun y => bk (f y)) := by
  refine ⟨h.sz, ?_⟩
  intro H enc W base spare held fuel cs dd ps ht
  obtain ⟨x, hx, hB, hb⟩ := h.op ht
  refine ⟨g x, ?_, ?_, ?_⟩
  · show d.K W (f (g x)) cs
    rw [hg]
    exact hx
  · rw [hg]
    exact hB
  · rw [hg]
    exact hb
theorem Opb.imp {α : Type} {P : Program} {t : TypeId} {d : Kd α} {B B' : α → Prop} {bk bk' : α → Nat} (h : Opb P t d B bk) (hb : ∀ x, B x → B' x) (hk : ∀ x, bk' x ≤ bk x) : Opb P t d B' bk' :=
  ⟨h.sz, fun ht => let ⟨x, hx, hB, hl⟩ := h.op ht; ⟨x, hx, hb x hB, Nat.le_trans (hk x) hl⟩⟩
/-- A parameter of a row. -/
theorem Opb.param {α H : Type} {P : Program} {t : TypeId} {d : Kd α} {B : α → Prop} {bk : α → Nat} (h : Opb P t d B bk) {enc : TypeId × Value → H} {W : World} {base : Nat} {spare : Nat → Bool} {held : Bool} {v : Value} {dd : DataW H} {ps : List MemPlace}
    (hv : DataW.Trod enc P W base spare held t v dd ps) : ∃ x, d.K W x v.cells.toList ∧ B x ∧ bk x ≤ Rows.uptoBulk dd := by
  obtain ⟨fuel, hf⟩ := hv
  exact h.op hf
end Go.Proofs.YtohlmkcgempdlaaGreatDoor.Opb
namespace Go.Proofs.YtohlmkcgempdlaaGreatDoor.Cx
set_option linter.unusedSimpArgs false
set_option linter.unusedVariables false
open Go.RowKit Go.Maps Go.Proofs.YtohlmkcgempdlaaGreatDoorW.PrintWords Go.Proofs.YtohlmkcgempdlaaGreatDoorW.PrintLast Go.Proofs.YtohlmkcgempdlaaGreatDoor.QD Go.Proofs.YtohlmkcgempdlaaGreatDoor.Opb Go.Proofs.YtohlmkcgempdlaaGreatDoor.Cn
theorem NV64_of_wf {x : Int} (h : (Lit.int .i64 x).wf = true) : NV64 x := by
  simp only [Lit.wf, Bool.and_eq_true, decide_eq_true_eq] at h
  exact h
theorem oInt : Opb Tryz.prog 3 (Kd.int .i64) (fun _ => True) (fun _ => 1) := (Opb.int Tryz.underlying3 (by kernel_rfl)).imp (fun _ _ => trivial) (fun _ => Nat.le_refl _)
theorem oBool : Opb Tryz.prog 4 Kd.bool (fun _ => True) (fun _ => 1) := (Opb.bool Tryz.underlying4 (by kernel_rfl)).imp (fun _ _ => trivial) (fun _ => Nat.le_refl _)
theorem oVT : Opb Tryz.prog 39 k39 (fun _ => True) (fun _ => 1) :=
  (Opb.iso (Opb.struct Tryz.underlying39 (by kernel_rfl) (OpbF.cons oInt rfl rfl (OpbF.cons oBool rfl rfl (OpbF.last oInt rfl)))) (fun x : S39 => (x.f0, x.f1, x.f2)) (fun x => ⟨x.1, x.2.1, x.2.2⟩) (fun _ => rfl)).imp (fun _ _ => trivial) (fun _ => by omega)
theorem oFT : Opb Tryz.prog 172 k172 (fun _ => True) (fun _ => 1) :=
  (Opb.iso (Opb.struct Tryz.underlying172 (by kernel_rfl) (OpbF.cons oVT rfl rfl (OpbF.last oBool rfl))) (fun x : S172 => (x.f0, x.f1)) (fun x => ⟨x.1, x.2⟩) (fun _ => rfl)).imp (fun _ _ => trivial) (fun _ => by omega)
theorem o_ones {α : Type} (l : List α) : (l.map fun _ => 1).sum = l.length := by
  induction l with
  | nil => rfl
  | cons x l ih => simp only [List.map_cons, List.sum_cons, ih, List.length_cons]; omega
theorem oInts : Opb Tryz.prog 23 (Kd.slice 3 (Kd.int .i64)) (fun _ => True) (fun xs => xs.length) := (Opb.slice Tryz.underlying23 (by kernel_rfl) oInt).imp (fun _ _ => trivial) (fun _ => by rw [o_ones]; omega)
theorem oVTs : Opb Tryz.prog 27 (Kd.slice 39 k39) (fun _ => True) (fun xs => xs.length) := (Opb.slice Tryz.underlying27 (by kernel_rfl) oVT).imp (fun _ _ => trivial) (fun _ => by rw [o_ones]; omega)
theorem oFTs : Opb Tryz.prog 119 (Kd.slice 172 k172) (fun _ => True) (fun xs => xs.length) := (Opb.slice Tryz.underlying119 (by kernel_rfl) oFT).imp (fun _ _ => trivial) (fun _ => by rw [o_ones]; omega)
theorem oCT : Opb Tryz.prog 121 k121 (fun _ => True) (fun c => c.f1.length + c.f2.length + c.f3.length + 1) :=
  (Opb.iso (Opb.struct Tryz.underlying121 (by kernel_rfl) (OpbF.cons oInt rfl rfl (OpbF.cons oVTs rfl rfl (OpbF.cons oVTs rfl rfl (OpbF.last oFTs rfl))))) (fun x : S121 => (x.f0, x.f1, x.f2, x.f3)) (fun x => ⟨x.1, x.2.1, x.2.2.1, x.2.2.2⟩) (fun _ => rfl)).imp (fun _ _ => trivial) (fun _ => by dsimp only; omega)
theorem oST : Opb Tryz.prog 123 k123 (fun _ => True) vS :=
  (Opb.iso (Opb.struct Tryz.underlying123 (by kernel_rfl) (OpbF.cons oBool rfl rfl (OpbF.cons oInts rfl rfl (OpbF.last oCT rfl)))) (fun x : S123 => (x.f0, x.f1, x.f2)) (fun x => ⟨x.1, x.2.1, x.2.2⟩) (fun _ => rfl)).imp (fun _ _ => trivial) (fun _ => by unfold vS; dsimp only; omega)
theorem oSTs : Opb Tryz.prog 130 (Kd.slice 123 k123) (fun _ => True) (fun xs => vG xs) := (Opb.slice Tryz.underlying130 (by kernel_rfl) oST).imp (fun _ _ => trivial) (fun _ => by unfold vG; omega)
theorem oRT : Opb Tryz.prog 132 k132 (fun _ => True) (fun r => vG r.f0 + 1) :=
  (Opb.iso (Opb.struct Tryz.underlying132 (by kernel_rfl) (OpbF.cons oSTs rfl rfl (OpbF.last oBool rfl))) (fun x : S132 => (x.f0, x.f1)) (fun x => ⟨x.1, x.2⟩) (fun _ => rfl)).imp (fun _ _ => trivial) (fun _ => by dsimp only; omega)
theorem oRTs : Opb Tryz.prog 22 (Kd.slice 132 k132) (fun _ => True) vL := (Opb.slice Tryz.underlying22 (by kernel_rfl) oRT).imp (fun _ _ => trivial) (fun _ => by unfold vL; omega)
theorem oLim : Opb Tryz.prog 212 k212 (fun _ => True) (fun _ => 1) :=
  (Opb.iso (Opb.struct Tryz.underlying212 (by kernel_rfl) (OpbF.cons oBool rfl rfl (OpbF.cons (Opb.int (by kernel_rfl) (by kernel_rfl)) rfl rfl (OpbF.cons (Opb.int (by kernel_rfl) (by kernel_rfl)) rfl rfl (OpbF.last oBool rfl))))) (fun x : S212 => (x.f0, x.f1, x.f2, x.f3)) (fun x => ⟨x.1, x.2.1, x.2.2.1, x.2.2.2⟩) (fun _ => rfl)).imp (fun _ _ => trivial) (fun _ => by omega)
theorem oTT : Opb Tryz.prog 214 k214 (fun _ => True) (fun _ => 1) :=
  (Opb.iso (Opb.struct Tryz.underlying214 (by kernel_rfl) (OpbF.cons oVT rfl rfl (OpbF.last oLim rfl))) (fun x : S214 => (x.f0, x.f1)) (fun x => ⟨x.1, x.2⟩) (fun _ => rfl)).imp (fun _ _ => trivial) (fun _ => by omega)
theorem oGT : Opb Tryz.prog 292 k292 (fun _ => True) (fun _ => 1) :=
  (Opb.iso (Opb.struct Tryz.underlying292 (by kernel_rfl) (OpbF.cons oVT rfl rfl (OpbF.last oBool rfl))) (fun x : S292 => (x.f0, x.f1)) (fun x => ⟨x.1, x.2⟩) (fun _ => rfl)).imp (fun _ _ => trivial) (fun _ => by omega)
theorem oTTs : Opb Tryz.prog 24 (Kd.slice 214 k214) (fun _ => True) (fun _ => 0) := (Opb.slice Tryz.underlying24 (by kernel_rfl) oTT).imp (fun _ _ => trivial) (fun _ => by omega)
theorem oLims : Opb Tryz.prog 25 (Kd.slice 212 k212) (fun _ => True) (fun _ => 0) := (Opb.slice Tryz.underlying25 (by kernel_rfl) oLim).imp (fun _ _ => trivial) (fun _ => by omega)
theorem oGTs : Opb Tryz.prog 26 (Kd.slice 292 k292) (fun _ => True) (fun _ => 0) := (Opb.slice Tryz.underlying26 (by kernel_rfl) oGT).imp (fun _ _ => trivial) (fun _ => by omega)
theorem oBools : Opb Tryz.prog 28 (Kd.slice 4 Kd.bool) (fun _ => True) (fun _ => 0) := (Opb.slice Tryz.underlying28 (by kernel_rfl) oBool).imp (fun _ _ => trivial) (fun _ => by omega)
/-- A Ctx, as its reading says it. -/
abbrev kCtx := Kd.pair (Kd.slice 132 k132) (Kd.pair (Kd.slice 3 (Kd.int .i64)) (Kd.pair (Kd.slice 214 k214) (Kd.pair (Kd.slice 212 k212) (Kd.pair (Kd.slice 292 k292) (Kd.pair (Kd.slice 3 (Kd.int .i64)) (Kd.pair (Kd.slice 39 k39) (Kd.pair (Kd.int .i64) (Kd.slice 4 Kd.bool))))))))
theorem oCtx : Opb Tryz.prog 30 kCtx (fun _ => True) (fun x => vL x.1) :=
  (Opb.struct Tryz.underlying30 (by kernel_rfl) (OpbF.cons oRTs rfl rfl (OpbF.cons oInts rfl rfl (OpbF.cons oTTs rfl rfl (OpbF.cons oLims rfl rfl (OpbF.cons oGTs rfl rfl (OpbF.cons oInts rfl rfl (OpbF.cons oVTs rfl rfl (OpbF.cons oInt rfl rfl (OpbF.last oBools rfl)))))))))).imp (fun _ _ => trivial) (fun _ => by omega)
abbrev kBlock := Kd.pair (Kd.int .i64) k39
theorem oBlock : Opb Tryz.prog 41 kBlock (fun x => NV64 x.1) (fun _ => 1) :=
  (Opb.struct Tryz.underlying41 (by kernel_rfl) (OpbF.cons ((Opb.int Tryz.underlying3 (by kernel_rfl)).imp (fun _ h => NV64_of_wf h) (fun _ => Nat.le_refl _)) rfl rfl (OpbF.last oVT rfl))).imp (fun _ h => h.1) (fun _ => by omega)
theorem ctx_open {W : World} {x : List S132 × List Int × List S214 × List S212 × List S292 × List Int × List S39 × Int × List Bool} {cs : List Value} (h : kCtx.K W x cs) (hb : vL x.1 ≤ 1048576) : ∃ (A0 : Option Addr) (c0 : Nat) (l0 : List S132) (A1 : Option Addr) (c1 : Nat) (l1 : List Int) (A2 : Option Addr) (c2 : Nat) (l2 : List S214) (A3 : Option Addr) (c3 : Nat) (l3 : List S212) (A4 : Option Addr) (c4 : Nat) (l4 : List S292) (A5 : Option Addr) (c5 : Nat) (l5 : List Int) (A6 : Option Addr) (c6 : Nat) (l6 : List S39) (d7 : Int) (A8 : Option Addr) (c8 : Nat) (l8 : List Bool), cs = [.slice A0 l0.length c0, .slice A1 l1.length c1, .slice A2 l2.length c2, .slice A3 l3.length c3, .slice A4 l4.length c4, .slice A5 l5.length c5, .slice A6 l6.length c6, .int .i64 d7, .slice A8 l8.length c8] ∧ XIn W A0 c0 l0 A1 c1 l1 A2 c2 l2 A3 c3 l3 A4 c4 l4 A5 c5 l5 A6 c6 l6 d7 A8 c8 l8 := by
  obtain ⟨_, _, rfl, ⟨A0, c0, rfl, h0, C0⟩, _, _, rfl, ⟨A1, c1, rfl, h1, C1⟩, _, _, rfl, ⟨A2, c2, rfl, h2, C2⟩, _, _, rfl, ⟨A3, c3, rfl, h3, C3⟩, _, _, rfl, ⟨A4, c4, rfl, h4, C4⟩, _, _, rfl, ⟨A5, c5, rfl, h5, C5⟩, _, _, rfl, ⟨A6, c6, rfl, h6, C6⟩, _, _, rfl, rfl, ⟨A8, c8, rfl, h8, C8⟩⟩ := h
  exact ⟨A0, c0, _, A1, c1, _, A2, c2, _, A3, c3, _, A4, c4, _, A5, c5, _, A6, c6, _, _, A8, c8, _, rfl, ⟨C0, h0, C1, h1, C2, h2, C3, h3, C4, h4, C5, h5, C6, h6, C8, h8, hb⟩⟩
theorem block_open {W : World} {x : Int × S39} {cs : List Value} (h : kBlock.K W x cs) : cs = [.int .i64 x.1, .int .i64 x.2.f0, .bool x.2.f1, .int .i64 x.2.f2] := by
  obtain ⟨_, _, rfl, rfl, s⟩ := h
  obtain rfl := k39_open s
  rfl
theorem vctlTypes_calls (A0 : Option Addr) (c0 : Nat) (l0 : List S132) (A1 : Option Addr) (c1 : Nat) (l1 : List Int) (A2 : Option Addr) (c2 : Nat) (l2 : List S214) (A3 : Option Addr) (c3 : Nat) (l3 : List S212) (A4 : Option Addr) (c4 : Nat) (l4 : List S292) (A5 : Option Addr) (c5 : Nat) (l5 : List Int) (A6 : Option Addr) (c6 : Nat) (l6 : List S39) (d7 : Int) (A8 : Option Addr) (c8 : Nat) (l8 : List Bool) (n t : Int) (v : S39) (op : Int) (w : World) (hx : XIn w A0 c0 l0 A1 c1 l1 A2 c2 l2 A3 c3 l3 A4 c4 l4 A5 c5 l5 A6 c6 l6 d7 A8 c8 l8) (hn : NV64 n) (ht : NV64 t) :
    Calls Tryz.prog 7 #[.agg #[.slice A0 l0.length c0, .slice A1 l1.length c1, .slice A2 l2.length c2, .slice A3 l3.length c3, .slice A4 l4.length c4, .slice A5 l5.length c5, .slice A6 l6.length c6, .int .i64 d7, .slice A8 l8.length c8], .int .i64 n, .agg #[.int .i64 t, .int .i64 v.f0, .bool v.f1, .int .i64 v.f2], .int .i64 op] w fun e w' => e = .returned (.bool true) ∧ Below w.heap.size w w' :=
  types_calls A0 c0 l0 A1 c1 l1 A2 c2 l2 A3 c3 l3 A4 c4 l4 A5 c5 l5 A6 c6 l6 d7 A8 c8 l8 n t op v w hx hn ht
end Go.Proofs.YtohlmkcgempdlaaGreatDoor.Cx
