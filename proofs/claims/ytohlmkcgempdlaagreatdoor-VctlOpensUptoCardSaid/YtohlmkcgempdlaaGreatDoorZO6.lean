/- Parts of the proof of vctlOpens_holds (6 of 22): what it says and shows stands at its declarations. -/
import Derived.Test.YtohlmkcgempdlaaGreatDoorZO5
import Derived.WalkLawsBesides
import Derived.WalkSpells
import Derived.Deep.RegionHeld3
import Derived.Outline
namespace Go.Proofs.YtohlmkcgempdlaaGreatDoor.Cn
open Go.RowKit Go.Proofs.YtohlmkcgempdlaaGreatDoorW.PrintWords Go.Proofs.YtohlmkcgempdlaaGreatDoor.QD
structure But (B : Nat) (row : Option Nat) (w w' : World) : Prop where
 os : w'.os = w.os
 tape : w'.tape = w.tape
 output : w'.output = w.output
 size : B ≤ w.heap.size ∧ w.heap.size ≤ w'.heap.size
 block : ∀ k, k < B → some k ≠ row → w'.heap[k]? = w.heap[k]?
theorem But.refl {B : Nat} (row : Option Nat) {w : World} (h : B ≤ w.heap.size) : But B row w w := ⟨rfl, rfl, rfl, ⟨h, Nat.le_refl _⟩, fun _ _ _ => rfl⟩
theorem But.below {B : Nat} {row : Option Nat} {w w1 w2 : World} (h : But B row w w1) (k : Below B w1 w2) (hs : w1.heap.size ≤ w2.heap.size) : But B row w w2 :=
 ⟨k.os.trans h.os, k.tape.trans h.tape, k.output.trans h.output, ⟨h.size.1, Nat.le_trans h.size.2 hs⟩, fun i hi hr => (k.block i hi).trans (h.block i hi hr)⟩
theorem But.alloc {B : Nat} {row : Option Nat} {w w1 : World} (h : But B row w w1) (o : Obj) : But B row w (w1.alloc o) :=
 h.below ((Below.refl _ _).alloc (Nat.le_trans h.size.1 h.size.2) o) (by simp)
theorem But.set {B : Nat} {row : Option Nat} {w w1 : World} (h : But B row w w1) {g : Nat} (hg : B ≤ g) (j : Nat) (u : Value) : But B row w (w1.setCell ⟨g, j, none⟩ u) :=
 h.below ((Below.refl _ _).setCell hg u) (by simp)
theorem But.grown {B : Nat} {row : Option Nat} {w w1 w2 : World} {r : Option Nat} (h : But B row w w1) (k : w1.grownBy w2 r) (hr : ∀ g, r = some g → B ≤ g ∨ some g = row) : But B row w w2 :=
 ⟨k.os.trans h.os, k.tape.trans h.tape, k.output.trans h.output, ⟨h.size.1, Nat.le_trans h.size.2 k.size⟩, fun i hi hrow => (k.block i (by have := h.size; omega) (by
  intro e
  rcases hr i e.symm with h1 | h1
  ·omega
  ·exact hrow h1)).trans (h.block i hi hrow)⟩
theorem But.to_grown {row : Option Nat} {w w1 : World} (h : But w.heap.size row w w1) : w.grownBy w1 row := ⟨h.os, h.tape, h.output, h.size.2, fun i hi hr => h.block i hi hr⟩
structure Cb (base : Nat) (row : Option Nat) {σ : Type} (Q : Int → Prop) (St : σ → World → Prop) (f : σ → Int → σ × Int) (fv : Value) : Prop where
 row_lt : ∀ k, row = some k → k < base
 keep : ∀ {s : σ} {w w' : World}, base ≤ w.heap.size → w.heap.size ≤ w'.heap.size → Below base w w' → St s w → St s w'
 call : ∃ k cap, fv = .func (.func k) #[] cap ∧ (∀ (args : Array Value) (w : World), (callFunc k args).run Tryz.prog w = .ok (.enter k args) w) ∧
  ∀ s h w, base ≤ w.heap.size → Q h → St s w → Calls Tryz.prog k (#[.int .i64 h] ++ cap) w fun e w' => e = .returned (.int .i64 (f s h).2) ∧ St (f s h).1 w' ∧ w.grownBy w' row
theorem Cb.below {base : Nat} {row : Option Nat} {σ : Type} {Q : Int → Prop} {St : σ → World → Prop} {f : σ → Int → σ × Int} {fv : Value} (h : Cb base row Q St f fv) {s : σ} {w w' : World} (hb : base ≤ w.heap.size) (hs : St s w) (hw : Below base w w') (hz : w.heap.size ≤ w'.heap.size) : St s w' :=
 h.keep hb hz hw hs
theorem Cb.pure {wm : World} {Q : Int → Prop} {f : Int → Int} {k : FuncId} {cap : Array Value} (hcf : ∀ (args : Array Value) (w : World), (callFunc k args).run Tryz.prog w = .ok (.enter k args) w)
  (hcall : ∀ h w, Below wm.heap.size wm w → Q h → Calls Tryz.prog k (#[.int .i64 h] ++ cap) w fun e w' => e = .returned (.int .i64 (f h)) ∧ Below w.heap.size w w') :
  Cb wm.heap.size none Q (fun (_ : Unit) w => Below wm.heap.size wm w) (fun s h => (s, f h)) (.func (.func k) #[] cap) where
 row_lt := fun k h => by cases h
 keep := fun {_ _ _} _ _ hb hs => hs.trans hb
 call := ⟨k, cap, rfl, hcf, fun _ h w _ hq hs => (hcall h w hs hq).mono fun _ _ ⟨he, hb⟩ => ⟨he, hs.trans (hb.mono hs.size), Ak5 hb none⟩⟩
def tval {σ : Type} (f : σ → Int → σ × Int) (s : σ) (v : S39) : σ × S39 := if v.f0 = 5 then ((f s v.f2).1, ⟨v.f0, v.f1, (f s v.f2).2⟩) else (s, v)
end Go.Proofs.YtohlmkcgempdlaaGreatDoor.Cn
namespace Go.Proofs.YtohlmkcgempdlaaGreatDoor.Cn
open Go.RowKit Go.Proofs.YtohlmkcgempdlaaGreatDoorW.PrintWords Go.Proofs.YtohlmkcgempdlaaGreatDoor.QD
set_option maxRecDepth 100000 in
theorem Ap2 {base : Nat} {row : Option Nat} {σ : Type} {Q : Int → Prop} {St : σ → World → Prop} {f : σ → Int → σ × Int} {fv : Value} (C : Cb base row Q St f fv) (s : σ) (n : Int) (b : Bool) (h : Int) (g : Nat) (w : World)
  (hg : w.cell? ⟨g, 0, none⟩ = some fv) (hb : base ≤ w.heap.size) (hq : n = 5 → Q h) (hs : St s w) :
  Calls Tryz.prog 136 #[.agg #[.int .i64 n, .bool b, .int .i64 h], .pointer (some ⟨g, 0, none⟩)] w fun e w' =>
   e = .returned (.agg #[.int .i64 (tval f s ⟨n, b, h⟩).2.f0, .bool (tval f s ⟨n, b, h⟩).2.f1, .int .i64 (tval f s ⟨n, b, h⟩).2.f2]) ∧ St (tval f s ⟨n, b, h⟩).1 w' ∧ w.grownBy w' row := by
 obtain ⟨k, cap, rfl, hcf, hcall⟩ := C.call
 have hlt : g < w.heap.size := World.block_lt_of_cell? w _ hg
 have hlt1 : g < w.heap.size + 1 := by omega
 have HQ := zA hq
 have HS := zA hs
 have HB := zA hb
 have HCALL := zA hcall
 clear hq hs hcall hb
 by_cases h5 : n = 5
 ·subst h5
  go_enter Tryz.func136, Tryz.ntmps136
  go_wp2_with fail
  refine (HCALL.out s h _ (by have := HB.out; simp; omega) (HQ.out trivial) (C.below HB.out HS.out (((Below.refl _ _).alloc HB.out _).alloc (by have := HB.out; simp; omega) _) (by simp; omega))).mono ?_
  rintro e w1 ⟨rfl, hS, hgr⟩
  have hne : ∀ i, w.heap.size ≤ i → some i ≠ row := fun i hi e => by have := C.row_lt i e.symm; have := HB.out; omega
  have b0 : w1.heap[w.heap.size]? = some (.cells #[.int .i64 5, .bool b, .int .i64 h] 39 (0, 0)) := (hgr.block _ (by simp; omega) (hne _ (Nat.le_refl _))).trans ((Below.heap_alloc _ _ _ (by simp)).trans (heap_alloc_new w _))
  have b1 : w1.heap[w.heap.size + 1]? = some (.cells #[.int .i64 0, .bool false, .int .i64 0] 39 (0, 0)) := (hgr.block _ (by simp) (hne _ (by omega))).trans (by have := heap_alloc_new (w.alloc (.cells #[.int .i64 5, .bool b, .int .i64 h] 39)) (.cells #[.int .i64 0, .bool false, .int .i64 0] 39); simpa using this)
  have c0 := (Aa0 b0 0).trans rfl
  have c1 := (Aa0 b0 1).trans rfl
  have c2 := (Aa0 b0 2).trans rfl
  have d0 := (Aa0 b1 0).trans rfl
  have d1 := (Aa0 b1 1).trans rfl
  have d2 := (Aa0 b1 2).trans rfl
  have f0 := Aa1 b0 0
  have f1 := Aa1 b0 1
  have f2 := Aa1 b0 2
  have g0 := Aa1 b1 0
  have g1 := Aa1 b1 1
  have g2 := Aa1 b1 2
  have HB0 := zA b0
  have HB1 := zA b1
  have HGR := zA hgr
  have HSS := zA hS
  have HNE := zA hne
  clear b0 b1 hgr hS hne
  go_wp2
  have hB := HB.out
  refine bodyPost_ret (results_cell_row rfl _ _ (w.heap.size + 1) 39 #[.int .i64 5, .bool b, .int .i64 (f s h).2] (0, 0) _ rfl (Aa7 (Aa7 (Aa7 (Ag6 HB1.out (by simp) _) 0 _) 1 _) 2 _) Tryz.underlying39 rfl (by kernel_rfl)) rfl ?_
  have e : tval f s ⟨5, b, h⟩ = ((f s h).1, ⟨5, b, (f s h).2⟩) := rfl
  rw [e]
  refine ⟨rfl, ?_, ?_⟩
  ·refine C.below (w := w1) (by have := HGR.out.size; simp at this; omega) HSS.out ?_ (by simp)
   exact (((((Below.refl _ _).setCell hB _).setCell (by show base ≤ w.heap.size + 1; omega) _).setCell (by show base ≤ w.heap.size + 1; omega) _).setCell (by show base ≤ w.heap.size + 1; omega) _)
  ·exact (((((((But.refl row (Nat.le_refl _)).alloc _).alloc _).grown HGR.out (fun g e => .inr e.symm)).set (Nat.le_refl _) _ _).set (Nat.le_succ _) _ _).set (Nat.le_succ _) _ _ |>.set (Nat.le_succ _) _ _).to_grown
 ·have e : tval f s ⟨n, b, h⟩ = (s, ⟨n, b, h⟩) := by simp [tval, h5]
  rw [e]
  go_enter Tryz.func136, Tryz.ntmps136
  go_wp2_with fail
  have hB := HB.out
  refine bodyPost_ret (v := .agg #[.int .i64 n, .bool b, .int .i64 h]) (by simp [results, Tryz.results136, go_sem]) rfl ?_
  refine ⟨rfl, ?_, ?_⟩
  ·exact C.below (w := w) HB.out HS.out (((Below.refl _ _).alloc hB _).alloc (by simp; omega) _) (by simp; omega)
  ·exact ((((But.refl row (Nat.le_refl _)).alloc _).alloc _)).to_grown
end Go.Proofs.YtohlmkcgempdlaaGreatDoor.Cn
namespace Go.Proofs.YtohlmkcgempdlaaGreatDoor.Cn
open Go.RowKit Go.Proofs.YtohlmkcgempdlaaGreatDoorW.PrintWords Go.Proofs.YtohlmkcgempdlaaGreatDoorW.PrintLast Go.Proofs.YtohlmkcgempdlaaGreatDoor.QD
def Aa4 {σ α β : Type} (g : σ → α → σ × β) : σ → List α → σ × List β
 | s, [] => (s, [])
 | s, x :: l => ((Aa4 g (g s x).1 l).1, (g s x).2 :: (Aa4 g (g s x).1 l).2)
theorem Cd6 {σ α β : Type} (g : σ → α → σ × β) (s : σ) (l : List α) (x : α) : Aa4 g s (l ++ [x]) = ((g (Aa4 g s l).1 x).1, (Aa4 g s l).2 ++ [(g (Aa4 g s l).1 x).2]) := by
 induction l generalizing s with
 | nil => rfl
 | cons y l ih => simp only [List.cons_append, Aa4, ih]
theorem Ag3 {σ α β : Type} (g : σ → α → σ × β) (s : σ) (l : List α) : (Aa4 g s l).2.length = l.length := by
 induction l generalizing s with
 | nil => rfl
 | cons y l ih => simp [Aa4, ih]
theorem Ai5 {σ α β : Type} (g : σ → α → σ × β) (s : σ) (l : List α) (k : Nat) (x : α) (hx : l[k]? = some x) : Aa4 g s (l.take (k + 1)) = ((g (Aa4 g s (l.take k)).1 x).1, (Aa4 g s (l.take k)).2 ++ [(g (Aa4 g s (l.take k)).1 x).2]) := by
 rw [List.take_add_one, hx]
 exact Cd6 g s _ x
theorem Cd7 {α β : Type} (g : α → β) (l : List α) : Aa4 (fun (_ : Unit) x => ((), g x)) () l = ((), l.map g) := by
 induction l with
 | nil => rfl
 | cons y l ih => simp [Aa4, ih]
theorem Ay9 {P : Program} {ops : Array Oper} {Q : Exit → Act → World → Prop} {oi : Oper} {N : Option Tmp} {a : Act} {w : World} {K : Act → World → Prop} {k : FuncId} {cap : Array Value} {x : Operand} {as_ : Array Operand} {ts : Array TypeId} (hcf : ∀ (args : Array Value) (w : World), (callFunc k args).run P w = .ok (.enter k args) w)
  (args all : Array Value) (hw : Region.wanted oi (yielded ops a.tmps) = true) (hN : oi.dst = N) (hop : oi.op = .call { callee := .value x, args := as_, argTypes := ts }) (hx : a.eval x = .func (.func k) #[] cap) (hargs : as_.map a.eval = args) (hall : args ++ cap = all)
  (h : Calls P k all w fun e w' => ∃ v, e = .returned v ∧ K (a.put N v) w') : if Region.wanted oi (yielded ops a.tmps) = true then Oper.wp P oi a w K Q else K (a.put N undef) w := by
 refine call_ k all hw hN ?_ h
 subst hall
 unfold execOp
 simp [hop, resolve, hx, Deferred.ofValue, invoke, hargs, hcf]
theorem Au7 {k : IntKind} {w : World} {A : Option Addr} {n : Nat} {xs : List Int} (h : (Kd.int k).C w A n xs) (j : Nat) (hj : j < n) : ∃ ad x, A = some ad ∧ xs[j]? = some x ∧ w.cell? (ad.add j) = some (.int k x) := by
 obtain ⟨ad, e, hc⟩ := Kd.Au2 h j (by omega) (by omega)
 have hl : j < xs.length := by have := h.1; omega
 refine ⟨ad, xs[j], e, List.getElem?_eq_getElem hl, ?_⟩
 have : rd xs (j : Int) = xs[j] := by simp [rd, List.getD_eq_getElem?_getD, List.getElem?_eq_getElem hl]
 rw [this] at hc
 exact hc
theorem Bz5 {w : World} {A : Option Addr} {n : Nat} {xs : List S39} (h : k39.C w A n xs) (j : Nat) (hj : j < n) : ∃ ad x, A = some ad ∧ xs[j]? = some x ∧ w.cell? (ad.add (j * 3)) = some (.int .i64 x.f0) ∧ w.cell? ⟨(ad.add (j * 3)).block, (ad.add (j * 3)).off + 1, none⟩ = some (.bool x.f1) ∧ w.cell? ⟨(ad.add (j * 3)).block, (ad.add (j * 3)).off + 2, none⟩ = some (.int .i64 x.f2) := by
 obtain ⟨ad, e, hc⟩ := Aq4 h j (by omega) (by omega)
 have hl : j < xs.length := by have := h.1; omega
 refine ⟨ad, xs[j], e, List.getElem?_eq_getElem hl, ?_⟩
 have : Ac7 xs (j : Int) = xs[j] := by simp [Ac7, List.getD_eq_getElem?_getD, List.getElem?_eq_getElem hl]
 rw [this] at hc
 exact hc
theorem at_FT' {w : World} {A : Option Addr} {n : Nat} {xs : List S172} (h : k172.C w A n xs) (j : Nat) (hj : j < n) : ∃ ad x, A = some ad ∧ xs[j]? = some x ∧ w.cell? (ad.add (j * 4)) = some (.int .i64 x.f0.f0) ∧ w.cell? ⟨(ad.add (j * 4)).block, (ad.add (j * 4)).off + 1, none⟩ = some (.bool x.f0.f1) ∧ w.cell? ⟨(ad.add (j * 4)).block, (ad.add (j * 4)).off + 2, none⟩ = some (.int .i64 x.f0.f2) ∧ w.cell? ⟨(ad.add (j * 4)).block, (ad.add (j * 4)).off + 3, none⟩ = some (.bool x.f1) := by
 obtain ⟨ad, e, hc⟩ := Bw8 h j (by omega) (by omega)
 have hl : j < xs.length := by have := h.1; omega
 refine ⟨ad, xs[j], e, List.getElem?_eq_getElem hl, ?_⟩
 have : Am1 xs (j : Int) = xs[j] := by simp [Am1, List.getD_eq_getElem?_getD, List.getElem?_eq_getElem hl]
 rw [this] at hc
 exact hc
structure TX (σ : Type) where
 base : Nat
 row : Option Nat
 St : σ → World → Prop
 fv : Value
 win : World
 w0 : World
 gs : Nat
 gt : Nat
 go : Nat
 gr : Nat
 fin : Bool
 kind : Int
 A1 : Option Addr
 c1 : Nat
 sup : List Int
 A2 : Option Addr
 c2 : Nat
 ps : List S39
 A3 : Option Addr
 c3 : Nat
 rs : List S39
 A4 : Option Addr
 c4 : Nat
 fs : List S172
structure TOk {σ : Type} (X : TX σ) : Prop where
 row_lt : ∀ k, X.row = some k → k < X.base
 win_row : ∀ k, X.row = some k → X.win.heap.size ≤ k
 win_base : X.win.heap.size ≤ X.base
 keep : ∀ {s : σ} {w w' : World}, X.base ≤ w.heap.size → w.heap.size ≤ w'.heap.size → Below X.base w w' → X.St s w → X.St s w'
 gs : X.base ≤ X.gs
 gt : X.base ≤ X.gt
 go : X.base ≤ X.go
 gr : X.base ≤ X.gr
 gsgo : X.gs ≠ X.go
 grgo : X.gr ≠ X.go
structure T {σ : Type} (X : TX σ) (v1 v2 v3 v4 : Value) (s : σ) (l1 : List Int) (l2 l3 : List S39) (l4 : List S172) (W : World) : Prop where
 bs : W.heap[X.gs]? = some (.cells #[.bool X.fin, .slice X.A1 X.sup.length X.c1, .int .i64 X.kind, .slice X.A2 X.ps.length X.c2, .slice X.A3 X.rs.length X.c3, .slice X.A4 X.fs.length X.c4] 123 (0, 0))
 bt : W.heap[X.gt]? = some (.cells #[X.fv] 162 (0, 0))
 bo : W.heap[X.go]? = some (.cells #[.bool X.fin, v1, .int .i64 X.kind, v2, v3, v4] 123 (0, 0))
 br : W.heap[X.gr]? = some (.cells #[.bool false, .slice none 0 0, .int .i64 0, .slice none 0 0, .slice none 0 0, .slice none 0 0] 123 (0, 0))
 r1 : Kd.R (Kd.int .i64) 3 W X.base (fun _ => True) v1 l1
 r2 : Kd.R k39 39 W X.base (fun k => True ∧ some k ≠ v3.ownBlock) v2 l2
 r3 : Kd.R k39 39 W X.base (fun k => True ∧ some k ≠ v2.ownBlock) v3 l3
 r4 : Kd.R k172 172 W X.base (fun _ => True) v4 l4
 st : X.St s W
 but : But X.base X.row X.w0 W
 bin : Below X.win.heap.size X.win W
section
variable {σ : Type} {X : TX σ} {v1 v2 v3 v4 : Value} {s : σ} {l1 : List Int} {l2 l3 : List S39} {l4 : List S172} {W W' : World}
theorem T.size (h : T X v1 v2 v3 v4 s l1 l2 l3 l4 W) : X.base ≤ W.heap.size := Nat.le_trans h.but.size.1 h.but.size.2
theorem T.below (h : T X v1 v2 v3 v4 s l1 l2 l3 l4 W) (K : TOk X) (hb : Below W.heap.size W W') : T X v1 v2 v3 v4 s l1 l2 l3 l4 W' where
 bs := Aa3 h.bs hb
 bt := Aa3 h.bt hb
 bo := Aa3 h.bo hb
 br := Aa3 h.br hb
 r1 := Kd.Ac5 h.r1 hb
 r2 := Kd.Ac5 h.r2 hb
 r3 := Kd.Ac5 h.r3 hb
 r4 := Kd.Ac5 h.r4 hb
 st := K.keep h.size hb.size (hb.mono h.size) h.st
 but := h.but.below (hb.mono h.size) hb.size
 bin := h.bin.trans (hb.mono (h.bin.size))
theorem T.drew (h : T X v1 v2 v3 v4 s l1 l2 l3 l4 W) (K : TOk X) : T X v1 v2 v3 v4 s l1 l2 l3 l4 W.drew := h.below K ⟨rfl, rfl, rfl, Nat.le_refl _, fun _ _ => rfl⟩
theorem T.alloc (h : T X v1 v2 v3 v4 s l1 l2 l3 l4 W) (K : TOk X) (o : Obj) : T X v1 v2 v3 v4 s l1 l2 l3 l4 (W.alloc o) := h.below K ((Below.refl _ _).alloc (Nat.le_refl _) o)
theorem T.cb (h : T X v1 v2 v3 v4 s l1 l2 l3 l4 W) (K : TOk X) {s' : σ} (hg : W.grownBy W' X.row) (hs : X.St s' W') : T X v1 v2 v3 v4 s' l1 l2 l3 l4 W' := by
 have ne : ∀ k, X.base ≤ k → some k ≠ X.row := fun k hk e => by have := K.row_lt k e.symm; omega
 have rb : ∀ {α : Type} {d : Kd α} {e : Nat} {ok : Nat → Prop} {v : Value} {l : List α}, Kd.R d e W X.base ok v l → Kd.R d e W' X.base ok v l := fun hr => Kd.Af7 (Kd.Au8 (Kd.Af6 hr) hg (fun k hk => ne k hk.2.1)) (fun k hk => hk.1)
 exact {
  bs := Ab5 h.bs hg (ne _ K.gs)
  bt := Ab5 h.bt hg (ne _ K.gt)
  bo := Ab5 h.bo hg (ne _ K.go)
  br := Ab5 h.br hg (ne _ K.gr)
  r1 := rb h.r1
  r2 := rb h.r2
  r3 := rb h.r3
  r4 := rb h.r4
  st := hs
  but := h.but.grown hg (fun g e => .inr e.symm)
  bin := ⟨hg.os.trans h.bin.os, hg.tape.trans h.bin.tape, hg.output.trans h.bin.output, Nat.le_trans h.bin.size hg.size, fun i hi => (hg.block i (Nat.lt_of_lt_of_le hi h.bin.size) (fun e => by have := K.win_row i e.symm; omega)).trans (h.bin.block i hi)⟩ }
theorem T.grown (h : T X v1 v2 v3 v4 s l1 l2 l3 l4 W) (K : TOk X) {r : Option Nat} (hr : ∀ k, r = some k → X.base ≤ k) (hg : W.grownBy W' r) :
  X.St s W' ∧ But X.base X.row X.w0 W' ∧ Below X.win.heap.size X.win W' :=
 ⟨K.keep h.size hg.size ⟨hg.os, hg.tape, hg.output, hg.size, fun k hk => hg.block k (Nat.lt_of_lt_of_le hk h.size) (fun e => by have := hr k e.symm; omega)⟩ h.st,
  h.but.grown hg (fun g e => .inl (hr g e)),
  ⟨hg.os.trans h.bin.os, hg.tape.trans h.bin.tape, hg.output.trans h.bin.output, Nat.le_trans h.bin.size hg.size, fun i hi => (hg.block i (Nat.lt_of_lt_of_le hi h.bin.size) (fun e => by have := hr i e.symm; have := K.win_base; omega)).trans (h.bin.block i hi)⟩⟩
theorem Ag5 {α : Type} {d : Kd α} {e : Nat} {ok : Nat → Prop} {v : Value} {l : List α} {B : Nat} (hr : Kd.R d e W B ok v l) : ∀ k, v.ownBlock = some k → B ≤ k := fun k hk => by
 obtain ⟨_, inner, ho, _⟩ := hr
 exact Al6 ho k hk
theorem T.blocks (h : T X v1 v2 v3 v4 s l1 l2 l3 l4 W) {α : Type} {d : Kd α} {e : Nat} {ok : Nat → Prop} {v : Value} {l : List α} (hr : Kd.R d e W X.base ok v l) (he1 : e ≠ 123) (he2 : e ≠ 162) (hg : W.grownBy W' v.ownBlock) :
  W'.heap[X.gs]? = some (.cells #[.bool X.fin, .slice X.A1 X.sup.length X.c1, .int .i64 X.kind, .slice X.A2 X.ps.length X.c2, .slice X.A3 X.rs.length X.c3, .slice X.A4 X.fs.length X.c4] 123 (0, 0)) ∧
  W'.heap[X.gt]? = some (.cells #[X.fv] 162 (0, 0)) ∧ W'.heap[X.go]? = some (.cells #[.bool X.fin, v1, .int .i64 X.kind, v2, v3, v4] 123 (0, 0)) ∧
  W'.heap[X.gr]? = some (.cells #[.bool false, .slice none 0 0, .int .i64 0, .slice none 0 0, .slice none 0 0, .slice none 0 0] 123 (0, 0)) :=
 ⟨Ab5 h.bs hg (Kd.R_ne hr h.bs he1), Ab5 h.bt hg (Kd.R_ne hr h.bt he2), Ab5 h.bo hg (Kd.R_ne hr h.bo he1), Ab5 h.br hg (Kd.R_ne hr h.br he1)⟩
theorem T.store {v1' v2' v3' v4' : Value} (K : TOk X) {i : Nat} {u : Value}
  (bs : W.heap[X.gs]? = some (.cells #[.bool X.fin, .slice X.A1 X.sup.length X.c1, .int .i64 X.kind, .slice X.A2 X.ps.length X.c2, .slice X.A3 X.rs.length X.c3, .slice X.A4 X.fs.length X.c4] 123 (0, 0)))
  (bt : W.heap[X.gt]? = some (.cells #[X.fv] 162 (0, 0))) (bo : W.heap[X.go]? = some (.cells #[.bool X.fin, v1, .int .i64 X.kind, v2, v3, v4] 123 (0, 0)))
  (br : W.heap[X.gr]? = some (.cells #[.bool false, .slice none 0 0, .int .i64 0, .slice none 0 0, .slice none 0 0, .slice none 0 0] 123 (0, 0)))
  (r1 : Kd.R (Kd.int .i64) 3 W X.base (fun _ => True) v1' l1) (r2 : Kd.R k39 39 W X.base (fun k => True ∧ some k ≠ v3'.ownBlock) v2' l2) (r3 : Kd.R k39 39 W X.base (fun k => True ∧ some k ≠ v2'.ownBlock) v3' l3) (r4 : Kd.R k172 172 W X.base (fun _ => True) v4' l4)
  (st : X.St s W) (but : But X.base X.row X.w0 W) (bin : Below X.win.heap.size X.win W) (hu : #[.bool X.fin, v1, .int .i64 X.kind, v2, v3, v4].setIfInBounds i u = #[.bool X.fin, v1', .int .i64 X.kind, v2', v3', v4']) :
  T X v1' v2' v3' v4' s l1 l2 l3 l4 (W.setCell ⟨X.go, i, none⟩ u) where
 bs := Ag6 bs K.gsgo u
 bt := Ag6 bt (blk_ne bt bo (by decide)) u
 bo := blk_put bo i u hu
 br := Ag6 br K.grgo u
 r1 := Kd.Ac3 r1 bo (by decide) i u
 r2 := Kd.Ac3 r2 bo (by decide) i u
 r3 := Kd.Ac3 r3 bo (by decide) i u
 r4 := Kd.Ac3 r4 bo (by decide) i u
 st := K.keep (Nat.le_trans but.size.1 but.size.2) (by simp) ((Below.refl _ _).setCell K.go u) st
 but := but.set K.go i u
 bin := bin.trans ((Below.refl _ _).setCell (by have := K.go; have := K.win_base; show X.win.heap.size ≤ X.go; omega) u)
theorem Ad9 {α β : Type} {d : Kd α} {d' : Kd β} {e e' : Nat} {ok ok' : Nat → Prop} {u v : Value} {m : List α} {l : List β} {B B' : Nat} (hr : Kd.R d' e' W B' ok' v l) (hg : W.grownBy W' v.ownBlock) (hu : Kd.R d e W B ok u m) (hq : ∀ q, q ∈ e :: d.E → q ≠ e') : Kd.R d e W' B ok u m := by
 refine Kd.Af7 (Kd.Au8 (Kd.Af6 hu) hg (fun k hk e => ?_)) (fun k hk => hk.1)
 obtain ⟨_, inner, ho, _⟩ := hr
 obtain ⟨cells, hc⟩ := Aj2 ho k e.symm
 obtain ⟨_, _, _, q, hq1, cells', hc'⟩ := hk
 rw [hc] at hc'
 injection hc' with hc'
 injection hc' with _ hc'
 exact hq q hq1 hc'.symm
theorem T.put1 (h : T X v1 v2 v3 v4 s l1 l2 l3 l4 W) (K : TOk X) {v : Value} {l : List Int} (hr : Kd.R (Kd.int .i64) 3 W' X.base (fun _ => True) v l) (hg : W.grownBy W' v1.ownBlock) : T X v v2 v3 v4 s l l2 l3 l4 (W'.setCell ⟨X.go, 1, none⟩ v) := by
 obtain ⟨bs, bt, bo, br⟩ := h.blocks h.r1 (by decide) (by decide) hg
 obtain ⟨st, but, bin⟩ := h.grown K (Ag5 h.r1) hg
 exact T.store K bs bt bo br hr (Ad9 h.r1 hg h.r2 (by decide)) (Ad9 h.r1 hg h.r3 (by decide)) (Ad9 h.r1 hg h.r4 (by decide)) st but bin rfl
theorem T.put2 (h : T X v1 v2 v3 v4 s l1 l2 l3 l4 W) (K : TOk X) {v : Value} {l : List S39} (hr : Kd.R k39 39 W' X.base (fun k => True ∧ some k ≠ v3.ownBlock) v l) (hg : W.grownBy W' v2.ownBlock) (hat : v.ownBlock = v2.ownBlock ∨ ∃ b, v.ownBlock = some b ∧ W.heap.size ≤ b) : T X v1 v v3 v4 s l1 l l3 l4 (W'.setCell ⟨X.go, 3, none⟩ v) := by
 obtain ⟨bs, bt, bo, br⟩ := h.blocks h.r2 (by decide) (by decide) hg
 obtain ⟨st, but, bin⟩ := h.grown K (Ag5 h.r2) hg
 exact T.store K bs bt bo br (Ad9 h.r2 hg h.r1 (by decide)) hr (Kd.Ay0 h.r3 hg hat) (Ad9 h.r2 hg h.r4 (by decide)) st but bin rfl
theorem T.put3 (h : T X v1 v2 v3 v4 s l1 l2 l3 l4 W) (K : TOk X) {v : Value} {l : List S39} (hr : Kd.R k39 39 W' X.base (fun k => True ∧ some k ≠ v2.ownBlock) v l) (hg : W.grownBy W' v3.ownBlock) (hat : v.ownBlock = v3.ownBlock ∨ ∃ b, v.ownBlock = some b ∧ W.heap.size ≤ b) : T X v1 v2 v v4 s l1 l2 l l4 (W'.setCell ⟨X.go, 4, none⟩ v) := by
 obtain ⟨bs, bt, bo, br⟩ := h.blocks h.r3 (by decide) (by decide) hg
 obtain ⟨st, but, bin⟩ := h.grown K (Ag5 h.r3) hg
 exact T.store K bs bt bo br (Ad9 h.r3 hg h.r1 (by decide)) (Kd.Ay0 h.r2 hg hat) hr (Ad9 h.r3 hg h.r4 (by decide)) st but bin rfl
theorem T.put4 (h : T X v1 v2 v3 v4 s l1 l2 l3 l4 W) (K : TOk X) {v : Value} {l : List S172} (hr : Kd.R k172 172 W' X.base (fun _ => True) v l) (hg : W.grownBy W' v4.ownBlock) : T X v1 v2 v3 v s l1 l2 l3 l (W'.setCell ⟨X.go, 5, none⟩ v) := by
 obtain ⟨bs, bt, bo, br⟩ := h.blocks h.r4 (by decide) (by decide) hg
 obtain ⟨st, but, bin⟩ := h.grown K (Ag5 h.r4) hg
 exact T.store K bs bt bo br (Ad9 h.r4 hg h.r1 (by decide)) (Ad9 h.r4 hg h.r2 (by decide)) (Ad9 h.r4 hg h.r3 (by decide)) hr st but bin rfl
theorem T.ends (h : T X v1 v2 v3 v4 s l1 l2 l3 l4 W) (K : TOk X) (u0 u1 u2 u3 u4 u5 : Value) :
  Kd.R (Kd.int .i64) 3 ((((((W.setCell ⟨X.gr, 0, none⟩ u0).setCell ⟨X.gr, 1, none⟩ u1).setCell ⟨X.gr, 2, none⟩ u2).setCell ⟨X.gr, 3, none⟩ u3).setCell ⟨X.gr, 4, none⟩ u4).setCell ⟨X.gr, 5, none⟩ u5) X.base (fun _ => True) v1 l1 ∧
  Kd.R k39 39 ((((((W.setCell ⟨X.gr, 0, none⟩ u0).setCell ⟨X.gr, 1, none⟩ u1).setCell ⟨X.gr, 2, none⟩ u2).setCell ⟨X.gr, 3, none⟩ u3).setCell ⟨X.gr, 4, none⟩ u4).setCell ⟨X.gr, 5, none⟩ u5) X.base (fun _ => True) v2 l2 ∧
  Kd.R k39 39 ((((((W.setCell ⟨X.gr, 0, none⟩ u0).setCell ⟨X.gr, 1, none⟩ u1).setCell ⟨X.gr, 2, none⟩ u2).setCell ⟨X.gr, 3, none⟩ u3).setCell ⟨X.gr, 4, none⟩ u4).setCell ⟨X.gr, 5, none⟩ u5) X.base (fun _ => True) v3 l3 ∧
  Kd.R k172 172 ((((((W.setCell ⟨X.gr, 0, none⟩ u0).setCell ⟨X.gr, 1, none⟩ u1).setCell ⟨X.gr, 2, none⟩ u2).setCell ⟨X.gr, 3, none⟩ u3).setCell ⟨X.gr, 4, none⟩ u4).setCell ⟨X.gr, 5, none⟩ u5) X.base (fun _ => True) v4 l4 ∧
  X.St s ((((((W.setCell ⟨X.gr, 0, none⟩ u0).setCell ⟨X.gr, 1, none⟩ u1).setCell ⟨X.gr, 2, none⟩ u2).setCell ⟨X.gr, 3, none⟩ u3).setCell ⟨X.gr, 4, none⟩ u4).setCell ⟨X.gr, 5, none⟩ u5) ∧
  But X.base X.row X.w0 ((((((W.setCell ⟨X.gr, 0, none⟩ u0).setCell ⟨X.gr, 1, none⟩ u1).setCell ⟨X.gr, 2, none⟩ u2).setCell ⟨X.gr, 3, none⟩ u3).setCell ⟨X.gr, 4, none⟩ u4).setCell ⟨X.gr, 5, none⟩ u5) := by
 have b1 := Aa7 h.br 0 u0
 have b2 := Aa7 b1 1 u1
 have b3 := Aa7 b2 2 u2
 have b4 := Aa7 b3 3 u3
 have b5 := Aa7 b4 4 u4
 have hb : Below X.base W ((((((W.setCell ⟨X.gr, 0, none⟩ u0).setCell ⟨X.gr, 1, none⟩ u1).setCell ⟨X.gr, 2, none⟩ u2).setCell ⟨X.gr, 3, none⟩ u3).setCell ⟨X.gr, 4, none⟩ u4).setCell ⟨X.gr, 5, none⟩ u5) :=
  ((((((Below.refl _ _).setCell K.gr _).setCell K.gr _).setCell K.gr _).setCell K.gr _).setCell K.gr _).setCell K.gr _
 refine ⟨?_, ?_, ?_, ?_, ?_, ?_⟩
 ·exact Kd.Ac3 (Kd.Ac3 (Kd.Ac3 (Kd.Ac3 (Kd.Ac3 (Kd.Ac3 h.r1 h.br (by decide) 0 u0) b1 (by decide) 1 u1) b2 (by decide) 2 u2) b3 (by decide) 3 u3) b4 (by decide) 4 u4) b5 (by decide) 5 u5
 ·exact Kd.Af7 (Kd.Ac3 (Kd.Ac3 (Kd.Ac3 (Kd.Ac3 (Kd.Ac3 (Kd.Ac3 h.r2 h.br (by decide) 0 u0) b1 (by decide) 1 u1) b2 (by decide) 2 u2) b3 (by decide) 3 u3) b4 (by decide) 4 u4) b5 (by decide) 5 u5) (fun _ _ => trivial)
 ·exact Kd.Af7 (Kd.Ac3 (Kd.Ac3 (Kd.Ac3 (Kd.Ac3 (Kd.Ac3 (Kd.Ac3 h.r3 h.br (by decide) 0 u0) b1 (by decide) 1 u1) b2 (by decide) 2 u2) b3 (by decide) 3 u3) b4 (by decide) 4 u4) b5 (by decide) 5 u5) (fun _ _ => trivial)
 ·exact Kd.Ac3 (Kd.Ac3 (Kd.Ac3 (Kd.Ac3 (Kd.Ac3 (Kd.Ac3 h.r4 h.br (by decide) 0 u0) b1 (by decide) 1 u1) b2 (by decide) 2 u2) b3 (by decide) 3 u3) b4 (by decide) 4 u4) b5 (by decide) 5 u5
 ·exact K.keep h.size (by simp) hb h.st
 ·exact h.but.below hb (by simp)
end
def mkTX {σ : Type} (row : Option Nat) (St : σ → World → Prop) (fv : Value) (win w : World) (fin : Bool) (kind : Int) (A1 : Option Addr) (c1 : Nat) (sup : List Int) (A2 : Option Addr) (c2 : Nat) (ps : List S39) (A3 : Option Addr) (c3 : Nat) (rs : List S39) (A4 : Option Addr) (c4 : Nat) (fs : List S172) : TX σ :=
 { base := w.heap.size, row, St, fv, win, w0 := w, gs := w.heap.size, gt := w.heap.size + 1, gr := w.heap.size + 1 + 1, go := w.heap.size + 1 + 1 + 1, fin, kind, A1, c1, sup, A2, c2, ps, A3, c3, rs, A4, c4, fs }
theorem mkTOk {σ : Type} {base : Nat} {row : Option Nat} {Q : Int → Prop} {St : σ → World → Prop} {f : σ → Int → σ × Int} {fv : Value} (C : Cb base row Q St f fv) {win w : World} (hbase : base ≤ w.heap.size) (hwin : Below win.heap.size win w) (hrow : ∀ k, row = some k → win.heap.size ≤ k)
  (fin : Bool) (kind : Int) (A1 : Option Addr) (c1 : Nat) (sup : List Int) (A2 : Option Addr) (c2 : Nat) (ps : List S39) (A3 : Option Addr) (c3 : Nat) (rs : List S39) (A4 : Option Addr) (c4 : Nat) (fs : List S172) : TOk (mkTX row St fv win w fin kind A1 c1 sup A2 c2 ps A3 c3 rs A4 c4 fs) where
 row_lt := fun k hk => Nat.lt_of_lt_of_le (C.row_lt k hk) hbase
 win_row := hrow
 win_base := hwin.size
 keep := fun {s w1 w2} hb hz hm hs => C.keep (Nat.le_trans hbase hb) hz (hm.mono hbase) hs
 gs := Nat.le_refl _
 gt := Nat.le_succ _
 go := by show w.heap.size ≤ w.heap.size + 1 + 1 + 1; omega
 gr := by show w.heap.size ≤ w.heap.size + 1 + 1; omega
 gsgo := by show w.heap.size ≠ w.heap.size + 1 + 1 + 1; omega
 grgo := by show w.heap.size + 1 + 1 ≠ w.heap.size + 1 + 1 + 1; omega
theorem T.start {σ : Type} {row : Option Nat} {St : σ → World → Prop} {fv : Value} {win w : World} {fin : Bool} {kind : Int} {A1 : Option Addr} {c1 : Nat} {sup : List Int} {A2 : Option Addr} {c2 : Nat} {ps : List S39} {A3 : Option Addr} {c3 : Nat} {rs : List S39} {A4 : Option Addr} {c4 : Nat} {fs : List S172}
  (K : TOk (mkTX row St fv win w fin kind A1 c1 sup A2 c2 ps A3 c3 rs A4 c4 fs)) (hwin : Below win.heap.size win w) {s : σ} (hs : St s w) :
  T (mkTX row St fv win w fin kind A1 c1 sup A2 c2 ps A3 c3 rs A4 c4 fs) (.slice none 0 0) (.slice none 0 0) (.slice none 0 0) (.slice none 0 0) s [] [] [] []
   ((((w.alloc (.cells #[.bool fin, .slice A1 sup.length c1, .int .i64 kind, .slice A2 ps.length c2, .slice A3 rs.length c3, .slice A4 fs.length c4] 123)).alloc (.cells #[fv] 162)).alloc (.cells #[.bool false, .slice none 0 0, .int .i64 0, .slice none 0 0, .slice none 0 0, .slice none 0 0] 123)).alloc
    (.cells #[.bool fin, .slice none 0 0, .int .i64 kind, .slice none 0 0, .slice none 0 0, .slice none 0 0] 123)) := by
 have b1 : ∀ o1, Below w.heap.size w (w.alloc o1) := fun o1 => (Below.refl w.heap.size w).alloc (Nat.le_refl _) o1
 have b2 : ∀ o1 o2, Below w.heap.size w ((w.alloc o1).alloc o2) := fun o1 o2 => (b1 o1).alloc (b1 o1).size o2
 have b3 : ∀ o1 o2 o3, Below w.heap.size w (((w.alloc o1).alloc o2).alloc o3) := fun o1 o2 o3 => (b2 o1 o2).alloc (b2 o1 o2).size o3
 have b4 : ∀ o1 o2 o3 o4, Below w.heap.size w ((((w.alloc o1).alloc o2).alloc o3).alloc o4) := fun o1 o2 o3 o4 => (b3 o1 o2 o3).alloc (b3 o1 o2 o3).size o4
 have n2 : ∀ o1 o2, ((w.alloc o1).alloc o2).heap[w.heap.size + 1]? = some o2 := fun o1 o2 => by have := Aa6 (w.alloc o1) o2; simpa using this
 have n3 : ∀ o1 o2 o3, (((w.alloc o1).alloc o2).alloc o3).heap[w.heap.size + 1 + 1]? = some o3 := fun o1 o2 o3 => by have := Aa6 ((w.alloc o1).alloc o2) o3; simpa using this
 have n4 : ∀ o1 o2 o3 o4, ((((w.alloc o1).alloc o2).alloc o3).alloc o4).heap[w.heap.size + 1 + 1 + 1]? = some o4 := fun o1 o2 o3 o4 => by have := Aa6 (((w.alloc o1).alloc o2).alloc o3) o4; simpa using this
 exact {
  bs := Aa5 (Aa5 (Aa5 (Aa6 w _) _) _) _
  bt := Aa5 (Aa5 (n2 _ _) _) _
  bo := n4 _ _ _ _
  br := Aa5 (n3 _ _ _) _
  r1 := Kd.Aj9 _ _ _ _ _
  r2 := Kd.Aj9 _ _ _ _ _
  r3 := Kd.Aj9 _ _ _ _ _
  r4 := Kd.Aj9 _ _ _ _ _
  st := K.keep (Nat.le_refl _) (b4 _ _ _ _).size (b4 _ _ _ _) hs
  but := (But.refl row (Nat.le_refl _)).below (b4 _ _ _ _) (b4 _ _ _ _).size
  bin := hwin.trans ((b4 _ _ _ _).mono hwin.size) }
end Go.Proofs.YtohlmkcgempdlaaGreatDoor.Cn
