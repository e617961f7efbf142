/- From a row's reading of an argument to what the printed words say of it: kinds are opened, kind by kind. -/
import Derived.Test.YtgjflboleognmaaWWords
import Derived.SizedLaws
import Derived.OpenShut
namespace Go.Proofs.Ytgjflboleognmaa.Opn
open Go.RowKit Go.Proofs.YtgjflboleognmaaW.PrintWords
theorem mapM_get {β γ : Type} {f : β → Option γ} : ∀ {l : List β} {r : List γ}, l.mapM f = some r → r.length = l.length ∧ ∀ (j : Nat) (b : β), l[j]? = some b → ∃ c, r[j]? = some c ∧ f b = some c
  | [], r, h => by
    simp at h
    subst h
    exact ⟨rfl, fun j b h => by simp at h⟩
  | b :: l, r, h => by
    rw [List.mapM_cons] at h
    cases hb : f b with
    | none => rw [hb] at h; simp at h
    | some c =>
      rw [hb] at h
      cases hl : l.mapM f with
      | none => rw [hl] at h; simp at h
      | some r' =>
        rw [hl] at h
        simp at h
        subst h
        obtain ⟨h1, h2⟩ := mapM_get hl
        refine ⟨by simp [h1], fun j b' hj => ?_⟩
        cases j with
        | zero => simp at hj; subst hj; exact ⟨c, rfl, hb⟩
        | succ j => exact h2 j b' (by simpa using hj)
theorem exists_list {α : Type} {p : Nat → α → Prop} : ∀ (n : Nat), (∀ j, j < n → ∃ x, p j x) → ∃ xs : List α, xs.length = n ∧ ∀ (j : Nat) (x : α), xs[j]? = some x → p j x
  | 0, _ => ⟨[], rfl, fun j x h => by simp at h⟩
  | n + 1, h => by
    obtain ⟨xs, h1, h2⟩ := exists_list n (fun j hj => h j (by omega))
    obtain ⟨x, hx⟩ := h n (by omega)
    refine ⟨xs ++ [x], by simp [h1], fun j y hj => ?_⟩
    rcases Nat.lt_or_ge j xs.length with hl | hl
    · rw [List.getElem?_append_left hl] at hj
      exact h2 j y hj
    · have e : j = n := by
        have := (List.getElem?_eq_some_iff.1 hj).1
        simp at this
        omega
      subst e
      rw [List.getElem?_append_right hl] at hj
      simp [h1] at hj
      subst hj
      exact hx
theorem cells_get {w : World} {base : Nat} {a : Addr} {n : Nat} {cs : List Value} (h : w.cells? base a n = some cs) : base ≤ a.block ∧ cs.length = n ∧ ∀ (i : Nat) (u : Value), cs[i]? = some u → w.cell? (a.add i) = some u := by
  unfold World.cells? at h
  split at h
  · rename_i hb
    obtain ⟨h1, h2⟩ := mapM_get h
    simp at h1
    refine ⟨hb, h1, fun i u hu => ?_⟩
    have hi : i < n := by have := (List.getElem?_eq_some_iff.1 hu).1; omega
    obtain ⟨c, hc, hcell⟩ := h2 i i (by simp [hi])
    rw [hu] at hc
    injection hc with hc
    subst hc
    exact hcell
  · cases h
theorem all_append_iff {l m : List Nat} {n : Nat} : (l ++ m).all (· ≤ n) = true ↔ l.all (· ≤ n) = true ∧ m.all (· ≤ n) = true := by simp [List.all_append]
theorem weightsAll_get {H : Type} {P : Program} {e : TypeId} {n : Nat} : ∀ {l : List (DataW H)}, (DataW.weightsAll P e l).all (· ≤ n) = true → ∀ (j : Nat) (d : DataW H), l[j]? = some d → (d.weights P e).all (· ≤ n) = true
  | [], _, j, d, h => by simp at h
  | x :: l, hw, j, d, h => by
    rw [DataW.weightsAll, all_append_iff] at hw
    cases j with
    | zero => simp at h; subst h; exact hw.1
    | succ j => exact weightsAll_get hw.2 j d (by simpa using h)
/-- A value of type t that a row reads is of kind d; B: what is known of it besides. -/
structure Opn {α : Type} (P : Program) (t : TypeId) (d : Kd α) (B : α → Prop) : Prop where
  sz : P.cellsOf t = d.sz
  op : ∀ {H : Type} {enc : TypeId × Value → H} {W : World} {base : Nat} {spare : Nat → Bool} {held : Bool} {fuel : Nat} {cs : List Value} {dd : DataW H} {ps : List MemPlace},
    DataW.trod enc P W base spare held fuel t cs = some (dd, ps) → (dd.weights P t).all (· ≤ reachBytes) = true → ∃ x, d.K W x cs ∧ B x
theorem Opn.int {P : Program} {t : TypeId} {k : IntKind} (hu : P.underlying t = some (.int k)) (hc : P.cellsOf t = 1) : Opn P t (Kd.int k) (fun x => (Lit.int k x).wf = true) := by
  refine ⟨hc, ?_⟩
  intro H enc W base spare held fuel cs dd ps h _
  cases fuel with
  | zero => simp [DataW.trod] at h
  | succ fuel =>
    unfold DataW.trod at h
    rw [hu] at h
    match cs, h with
    | [.int k' n], h =>
      simp at h
      obtain ⟨⟨rfl, hw⟩, _⟩ := h
      exact ⟨n, rfl, hw⟩
theorem Opn.bool {P : Program} {t : TypeId} (hu : P.underlying t = some .bool) (hc : P.cellsOf t = 1) : Opn P t Kd.bool (fun _ => True) := by
  refine ⟨hc, ?_⟩
  intro H enc W base spare held fuel cs dd ps h _
  cases fuel with
  | zero => simp [DataW.trod] at h
  | succ fuel =>
    unfold DataW.trod at h
    rw [hu] at h
    match cs, h with
    | [.bool b], h => exact ⟨b, rfl, trivial⟩
theorem Opn.slice {α : Type} {P : Program} {t e : TypeId} {d : Kd α} {B : α → Prop} {bytes : Nat} (hu : P.underlying t = some (.slice e)) (hc : P.cellsOf t = 1) (hb : P.bytesOf e = bytes) (ho : Opn P e d B) :
    Opn P t (Kd.slice e d) (fun xs => xs.length * bytes ≤ 140737488351232 ∧ ∀ x ∈ xs, B x) := by
  refine ⟨hc, ?_⟩
  intro H enc W base spare held fuel cs dd ps h hw
  cases fuel with
  | zero => simp [DataW.trod] at h
  | succ fuel =>
    unfold DataW.trod at h
    rw [hu] at h
    match cs, h with
    | [.slice none 0 0], h => exact ⟨[], ⟨none, 0, rfl, Nat.le_refl _, Kd.C_nil d W⟩, by simp, fun x hx => by simp at hx⟩
    | [.slice (some a) len cap], h =>
      dsimp only at h
      split at h
      · rename_i hcond
        cases hm : (List.range len).mapM (fun i => (W.cells? base (a.add (i * P.cellsOf e)) (P.cellsOf e)).bind (DataW.trod enc P W base spare held fuel e)) with
        | none => rw [hm] at h; simp at h
        | some elems =>
          rw [hm] at h
          simp only [Option.bind_some, Option.map_eq_some_iff] at h
          obtain ⟨rest, _, h⟩ := h
          obtain ⟨rfl, _⟩ := Prod.mk.inj h
          obtain ⟨h1, h2⟩ := mapM_get hm
          simp only [List.length_range] at h1
          simp only [DataW.weights, hu, List.all_cons, all_append_iff, Bool.and_eq_true, decide_eq_true_eq, List.length_map] at hw
          obtain ⟨hw0, hw1, _⟩ := hw
          have key : ∀ j, j < len → ∃ x, ∃ c, c.length = d.sz ∧ d.K W x c ∧ (∀ (i : Nat) (u : Value), c[i]? = some u → W.cell? (a.add (j * d.sz + i)) = some u) ∧ B x := by
            intro j hj
            obtain ⟨y, hy, hf⟩ := h2 j j (by simp [hj])
            simp only [Option.bind_eq_some_iff] at hf
            obtain ⟨c, hc1, hc2⟩ := hf
            obtain ⟨_, hcl, hcc⟩ := cells_get hc1
            obtain ⟨x, hx, hBx⟩ := ho.op (dd := y.1) (ps := y.2) hc2 (weightsAll_get hw1 j y.1 (by simp [hy]))
            refine ⟨x, c, by rw [hcl, ho.sz], hx, fun i u hu => ?_, hBx⟩
            have := hcc i u hu
            rw [Addr.add_add, ho.sz] at this
            exact this
          obtain ⟨xs, hl, hxs⟩ := exists_list len key
          refine ⟨xs, ⟨some a, cap, by rw [hl], by rw [hl]; exact hcond.2.1, ⟨rfl, ?_, fun hpos => ⟨a, rfl, fun j p hj => ?_⟩⟩⟩, ?_, fun x hx => ?_⟩
          · have := hcond.2.2
            have := hcond.2.1
            simp only [maxLen] at *
            omega
          · obtain ⟨c, hc1, hc2, hc3, _⟩ := hxs j p hj
            exact ⟨c, hc1, hc2, hc3⟩
          · rw [← hb, hl, ← h1]
            refine Nat.le_trans (Nat.mul_le_mul_right _ (Nat.le_add_right _ rest.length)) ?_
            exact hw0
          · obtain ⟨j, hj, rfl⟩ := List.mem_iff_getElem.1 hx
            obtain ⟨c, _, _, _, hB⟩ := hxs j _ (List.getElem?_eq_getElem hj)
            exact hB
      · cases h
/-- The fields of a struct from one on. -/
structure OpnF {α : Type} (P : Program) (fs : List Field) (off : Nat) (d : Kd α) (B : α → Prop) : Prop where
  op : ∀ {H : Type} {enc : TypeId × Value → H} {W : World} {base : Nat} {spare : Nat → Bool} {held : Bool} {fuel : Nat} {cs : List Value} {xs : List (DataW H × List MemPlace)},
    (fs.mapM fun f => DataW.trod enc P W base spare held fuel f.type ((cs.drop f.offset).take (P.cellsOf f.type))) = some xs → (DataW.weightsEach P (fs.map (·.type)) (xs.map (·.1))).all (· ≤ reachBytes) = true →
      cs.length = off + d.sz → ∃ x, d.K W x (cs.drop off) ∧ B x
theorem OpnF.last {α : Type} {P : Program} {f : Field} {off : Nat} {d : Kd α} {B : α → Prop} (h : Opn P f.type d B) (ho : f.offset = off) : OpnF P [f] off d B := by
  refine ⟨?_⟩
  intro H enc W base spare held fuel cs xs hx hw hl
  rw [List.mapM_cons] at hx
  cases hf : DataW.trod enc P W base spare held fuel f.type ((cs.drop f.offset).take (P.cellsOf f.type)) with
  | none => rw [hf] at hx; simp at hx
  | some y =>
    rw [hf] at hx
    simp at hx
    subst hx
    simp only [List.map, DataW.weightsEach, all_append_iff] at hw
    obtain ⟨x, hx, hB⟩ := h.op (dd := y.1) (ps := y.2) hf hw.1
    have e : (cs.drop f.offset).take (P.cellsOf f.type) = cs.drop off := by
      rw [ho, h.sz]
      exact List.take_of_length_le (by rw [List.length_drop, hl]; omega)
    rw [e] at hx
    exact ⟨x, hx, hB⟩
theorem OpnF.cons {α β : Type} {P : Program} {f : Field} {fs : List Field} {off off' : Nat} {d : Kd α} {d' : Kd β} {B : α → Prop} {B' : β → Prop} (h : Opn P f.type d B) (ho : f.offset = off) (hs : off + d.sz = off') (h' : OpnF P fs off' d' B') :
    OpnF P (f :: fs) off (Kd.pair d d') (fun x => B x.1 ∧ B' x.2) := by
  refine ⟨?_⟩
  intro H enc W base spare held fuel cs xs hx hw hl
  rw [List.mapM_cons] at hx
  cases hf : DataW.trod enc P W base spare held fuel f.type ((cs.drop f.offset).take (P.cellsOf f.type)) with
  | none => rw [hf] at hx; simp at hx
  | some y =>
    rw [hf] at hx
    cases hr : fs.mapM fun f => DataW.trod enc P W base spare held fuel f.type ((cs.drop f.offset).take (P.cellsOf f.type)) with
    | none => rw [hr] at hx; simp at hx
    | some r =>
      rw [hr] at hx
      simp at hx
      subst hx
      simp only [List.map, DataW.weightsEach, all_append_iff] at hw
      have hl' : cs.length = off + (d.sz + d'.sz) := hl
      obtain ⟨x, hx, hB⟩ := h.op (dd := y.1) (ps := y.2) hf hw.1
      obtain ⟨z, hz, hB'⟩ := h'.op (cs := cs) hr hw.2 (by omega)
      refine ⟨(x, z), ⟨(cs.drop off).take d.sz, cs.drop off', ?_, ?_, hz⟩, hB, hB'⟩
      · rw [← hs, ← List.drop_drop, List.take_append_drop]
      · rw [ho, h.sz] at hx
        exact hx
theorem Opn.struct {α : Type} {P : Program} {t : TypeId} {fs : Array Field} {d : Kd α} {B : α → Prop} (hu : P.underlying t = some (.struct fs)) (hc : P.cellsOf t = d.sz) (h : OpnF P fs.toList 0 d B) : Opn P t d B := by
  refine ⟨hc, ?_⟩
  intro H enc W base spare held fuel cs dd ps ht hw
  cases fuel with
  | zero => simp [DataW.trod] at ht
  | succ fuel =>
    unfold DataW.trod at ht
    rw [hu] at ht
    have ht' : (if cs.length = P.cellsOf t then (fs.toList.mapM fun f => DataW.trod enc P W base spare held fuel f.type ((cs.drop f.offset).take (P.cellsOf f.type))).map fun xs => (DataW.agg (xs.map (·.1)), xs.flatMap (·.2)) else none) = some (dd, ps) := by
      cases cs with
      | nil => exact ht
      | cons c cs => cases c <;> exact ht
    clear ht
    split at ht'
    · rename_i hcs
      simp only [Option.map_eq_some_iff] at ht'
      obtain ⟨xs, hxs, h2⟩ := ht'
      obtain ⟨rfl, _⟩ := Prod.mk.inj h2
      simp only [DataW.weights, hu] at hw
      obtain ⟨x, hx, hB⟩ := h.op hxs hw (by omega)
      exact ⟨x, by simpa using hx, hB⟩
    · cases ht'
theorem Opn.iso {α β : Type} {P : Program} {t : TypeId} {d : Kd α} {B : α → Prop} (h : Opn P t d B) (f : β → α) (g : α → β) (hg : ∀ a, f (g a) = a) : Opn P t (Kd.iso d f) (fun y => B (f y)) := by
  refine ⟨h.sz, ?_⟩
  intro H enc W base spare held fuel cs dd ps ht hw
  obtain ⟨x, hx, hB⟩ := h.op ht hw
  refine ⟨g x, ?_, ?_⟩
  · show d.K W (f (g x)) cs
    rw [hg]
    exact hx
  · rw [hg]
    exact hB
theorem Opn.imp {α : Type} {P : Program} {t : TypeId} {d : Kd α} {B B' : α → Prop} (h : Opn P t d B) (hb : ∀ x, B x → B' x) : Opn P t d B' :=
  ⟨h.sz, fun ht hw => let ⟨x, hx, hB⟩ := h.op ht hw; ⟨x, hx, hb x hB⟩⟩
/-- A parameter of a row. -/
theorem Opn.param {α H : Type} {P : Program} {t : TypeId} {d : Kd α} {B : α → Prop} (h : Opn P t d B) {enc : TypeId × Value → H} {W : World} {base : Nat} {spare : Nat → Bool} {held : Bool} {v : Value} {dd : DataW H} {ps : List MemPlace} {ts : List TypeId} {ds : List (DataW H)} {j : Nat}
    (hsz : (DataW.weightsEach P ts ds).all (· ≤ reachBytes) = true) (ht : ts[j]? = some t) (hd : ds[j]? = some dd) (hv : DataW.Trod enc P W base spare held t v dd ps) : ∃ x, d.K W x v.cells.toList ∧ B x := by
  obtain ⟨fuel, hf⟩ := hv
  refine h.op hf ?_
  rw [List.all_eq_true] at hsz ⊢
  exact fun n hn => hsz n (DataW.weights_mem_each ht hd n hn)
end Go.Proofs.Ytgjflboleognmaa.Opn
