/- A list of groups that came in: what its reading says of it. -/
import Derived.Test.YtfgglniigeagdaaDoorOpb
import Derived.Test.YtfgglniigeagdaaDoorTf
import Derived.Test.YtfgglniigeagdaaDoorInd
namespace Go.Proofs.YtfgglniigeagdaaDoor.Cn
set_option linter.unusedSimpArgs false
set_option linter.unusedVariables false
open Go.RowKit Go.Maps Go.Proofs.YtfgglniigeagdaaDoorW.PrintWords Go.Proofs.YtfgglniigeagdaaDoorW.PrintLast Go.Proofs.YtfgglniigeagdaaDoor.QD Go.Proofs.YtfgglniigeagdaaDoor.Opb
theorem N64_of_wf {x : Int} (h : (Lit.int .i64 x).wf = true) : N64 x := by
  simp only [Lit.wf, Bool.and_eq_true, decide_eq_true_eq] at h
  exact h
theorem opbInt : Opb Tryd.prog 3 (Kd.int .i64) N64 (fun _ => 1) := (Opb.int Tryd.underlying3 (by kernel_rfl)).imp (fun _ h => N64_of_wf h) (fun _ => Nat.le_refl _)
theorem opbVT : Opb Tryd.prog 74 k74 (fun v => N64 v.f0 ∧ N64 v.f2) (fun _ => 1) :=
  (Opb.iso (Opb.struct Tryd.underlying74 (by kernel_rfl) (OpbF.cons opbInt rfl rfl (OpbF.cons (Opb.bool Tryd.underlying4 (by kernel_rfl)) rfl rfl (OpbF.last opbInt rfl)))) (fun x : S74 => (x.f0, x.f1, x.f2)) (fun x => ⟨x.1, x.2.1, x.2.2⟩) (fun _ => rfl)).imp (fun _ h => ⟨h.1, h.2.2⟩) (fun _ => by omega)
theorem opbFT : Opb Tryd.prog 118 k118 (fun v => N64 v.f0.f0 ∧ N64 v.f0.f2) (fun _ => 1) :=
  (Opb.iso (Opb.struct Tryd.underlying118 (by kernel_rfl) (OpbF.cons opbVT rfl rfl (OpbF.last (Opb.bool Tryd.underlying4 (by kernel_rfl)) rfl))) (fun x : S118 => (x.f0, x.f1)) (fun x => ⟨x.1, x.2⟩) (fun _ => rfl)).imp (fun _ h => h.1) (fun _ => by omega)
theorem sum_ones {α : Type} (l : List α) : (l.map fun _ => 1).sum = l.length := by
  induction l with
  | nil => rfl
  | cons x l ih => simp only [List.map_cons, List.sum_cons, ih, List.length_cons]; omega
theorem opbInts : Opb Tryd.prog 37 (Kd.slice 3 (Kd.int .i64)) (fun xs => ∀ x ∈ xs, N64 x) (fun xs => xs.length) := (Opb.slice Tryd.underlying37 (by kernel_rfl) opbInt).imp (fun _ h => h) (fun _ => by rw [sum_ones]; omega)
theorem opbVTs : Opb Tryd.prog 48 (Kd.slice 74 k74) (fun xs => ∀ v ∈ xs, N64 v.f0 ∧ N64 v.f2) (fun xs => xs.length) := (Opb.slice Tryd.underlying48 (by kernel_rfl) opbVT).imp (fun _ h => h) (fun _ => by rw [sum_ones]; omega)
theorem opbFTs : Opb Tryd.prog 49 (Kd.slice 118 k118) (fun xs => ∀ v ∈ xs, N64 v.f0.f0 ∧ N64 v.f0.f2) (fun xs => xs.length) := (Opb.slice Tryd.underlying49 (by kernel_rfl) opbFT).imp (fun _ h => h) (fun _ => by rw [sum_ones]; omega)
/-- A composite type that came in. -/
structure CIn (c : S51) : Prop where
  k : N64 c.f0
  p : ∀ v ∈ c.f1, N64 v.f0 ∧ N64 v.f2
  r : ∀ v ∈ c.f2, N64 v.f0 ∧ N64 v.f2
  f : ∀ v ∈ c.f3, N64 v.f0.f0 ∧ N64 v.f0.f2
def wC (c : S51) : Nat := c.f1.length + c.f2.length + c.f3.length + 1
theorem opbCT : Opb Tryd.prog 51 k51 CIn wC :=
  (Opb.iso (Opb.struct Tryd.underlying51 (by kernel_rfl) (OpbF.cons opbInt rfl rfl (OpbF.cons opbVTs rfl rfl (OpbF.cons opbVTs rfl rfl (OpbF.last opbFTs rfl))))) (fun x : S51 => (x.f0, x.f1, x.f2, x.f3)) (fun x => ⟨x.1, x.2.1, x.2.2.1, x.2.2.2⟩) (fun _ => rfl)).imp (fun _ h => ⟨h.1, h.2.1, h.2.2.1, h.2.2.2⟩) (fun _ => by unfold wC; dsimp only; omega)
/-- A type that came in. -/
structure SIn (s : S53) : Prop where
  u : ∀ x ∈ s.f1, N64 x
  c : CIn s.f2
theorem opbST : Opb Tryd.prog 53 k53 SIn wS :=
  (Opb.iso (Opb.struct Tryd.underlying53 (by kernel_rfl) (OpbF.cons (Opb.bool Tryd.underlying4 (by kernel_rfl)) rfl rfl (OpbF.cons opbInts rfl rfl (OpbF.last opbCT rfl)))) (fun x : S53 => (x.f0, x.f1, x.f2)) (fun x => ⟨x.1, x.2.1, x.2.2⟩) (fun _ => rfl)).imp (fun _ h => ⟨h.2.1, h.2.2⟩) (fun _ => by unfold wS wC; dsimp only; omega)
theorem opbSTs : Opb Tryd.prog 60 (Kd.slice 53 k53) (fun xs => ∀ s ∈ xs, SIn s) (fun xs => wG xs) := (Opb.slice Tryd.underlying60 (by kernel_rfl) opbST).imp (fun _ h => h) (fun _ => by unfold wG; omega)
/-- A group that came in. -/
def GIn (r : S62) : Prop := ∀ s ∈ r.f0, SIn s
theorem opbRT : Opb Tryd.prog 62 k62 GIn (fun r => wG r.f0 + 1) :=
  (Opb.iso (Opb.struct Tryd.underlying62 (by kernel_rfl) (OpbF.cons opbSTs rfl rfl (OpbF.last (Opb.bool Tryd.underlying4 (by kernel_rfl)) rfl))) (fun x : S62 => (x.f0, x.f1)) (fun x => ⟨x.1, x.2⟩) (fun _ => rfl)).imp (fun _ h => h.1) (fun _ => by dsimp only; omega)
def LIn (l : List S62) : Prop := ∀ r ∈ l, GIn r
def wLL (l : List S62) : Nat := (l.map fun r => wG r.f0 + 1).sum
theorem opbRTs : Opb Tryd.prog 22 (Kd.slice 62 k62) LIn wLL := (Opb.slice Tryd.underlying22 (by kernel_rfl) opbRT).imp (fun _ h => h) (fun _ => by unfold wLL; omega)
theorem wLL_eq (l : List S62) : wLL l = wL l + l.length := by
  unfold wLL wL
  induction l with
  | nil => rfl
  | cons x l ih => simp only [List.map_cons, List.sum_cons, List.length_cons, ih]; omega
theorem wG_le_wL {l : List S62} {r : S62} (h : r ∈ l) : wG r.f0 ≤ wL l := sum_le_mem (fun r => wG r.f0) l r h
theorem wS_le_wG {l : List S53} {s : S53} (h : s ∈ l) : wS s ≤ wG l := sum_le_mem wS l s h
/-- The lists of a type are no longer than they can be. -/
theorem sok_of_w {s : S53} (h : wS s ≤ 1048576) : SOk (fun _ => True) s := by
  unfold wS at h
  exact ⟨fun _ _ => trivial, fun _ _ _ => trivial, fun _ _ _ => trivial, fun _ _ _ => trivial, by omega, by omega, by omega, by omega⟩
theorem sok_all {l : List S62} (h : wL l ≤ 1048576) : ∀ r ∈ l, ∀ s ∈ r.f0, SOk (fun _ => True) s := fun r hr s hs => sok_of_w (Nat.le_trans (wS_le_wG hs) (Nat.le_trans (wG_le_wL hr) h))
theorem rin_all {l : List S62} (h : wL l ≤ 1048576) (hi : LIn l) (hc : Clo l) : ∀ r ∈ l, ∀ s ∈ r.f0, RIn s := by
  intro r hr s hs
  obtain ⟨j, hj, rfl⟩ := List.getElem_of_mem hr
  have t := hc.tq (List.getElem?_eq_getElem hj) hs
  have hb : tcount (l.take (j + 1)) ≤ 1048576 := by
    have h1 := tcount_mono l (j + 1) l.length (by omega)
    rw [List.take_length] at h1
    have h2 := tcount_le_wL l
    omega
  have k := hi _ hr s hs
  have q : ∀ x : Int, (-12 ≤ x ∧ x < (tcount (l.take (j + 1)) : Nat)) → RollQ x := fun x hx => ⟨by omega, by omega⟩
  have o := sok_all h _ hr s hs
  refine ⟨⟨fun x hx => q x (t.q1 x hx), fun v hv e => q _ (t.q2 v hv e), fun v hv e => q _ (t.q3 v hv e), fun v hv e => q _ (t.q4 v hv e), o.l1, o.l2, o.l3, o.l4⟩, k.c.k, fun v hv => (k.c.p v hv).1, fun v hv => (k.c.r v hv).1, fun v hv => (k.c.f v hv).1⟩
/-- A list of groups that the walk may read: at A, of capacity c. -/
structure LA (w : World) (A : Option Addr) (c : Nat) (l : List S62) : Prop where
  C : Kd.C k62 w A l.length l
  cap : l.length ≤ c
  inn : LIn l
  w : wL l + l.length ≤ 1048576
theorem LA.below {w w' : World} {A : Option Addr} {c : Nat} {l : List S62} (h : LA w A c l) (hb : Below w.heap.size w w') : LA w' A c l := ⟨Kd.C_below h.C hb, h.cap, h.inn, h.w⟩
theorem LA.of_K {w : World} {l : List S62} {v : Value} (h : (Kd.slice 62 k62).K w l v.cells.toList) {A : Option Addr} {n c : Nat} (hv : v = .slice A n c) (hi : LIn l) (hb : wLL l ≤ 1048576) : n = l.length ∧ LA w A c l := by
  obtain ⟨A', c', e, hl, hC⟩ := h
  subst hv
  simp only [Value.cells, List.cons.injEq, and_true] at e
  injection e with e1 e2 e3
  subst e1 e3
  rw [wLL_eq] at hb
  exact ⟨e2, hC, hl, hi, hb⟩
end Go.Proofs.YtfgglniigeagdaaDoor.Cn
