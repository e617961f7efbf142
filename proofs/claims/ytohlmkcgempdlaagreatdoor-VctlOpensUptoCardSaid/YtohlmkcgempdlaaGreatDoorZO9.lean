/- Parts of the proof of vctlOpens_holds (9 of 22): what it says and shows stands at its declarations. -/
import Derived.Test.YtohlmkcgempdlaaGreatDoorZO8
import Derived.Lib.OthersKept
import Derived.Lib.UnsafeStr
import Derived.Lib.ItoaNum
import Derived.Lib.AppendIntMem
import Derived.WalkLawsBesides
import Derived.WalkSpells
import Derived.Outline
import Derived.Deep.DeepCutAuto
import Derived.Deep.CutBlock
import Derived.Deep.RegionHeld3
import Derived.Lib.ItoaLen
namespace Go.Proofs.YtohlmkcgempdlaaGreatDoor.Cn
open Go.RowKit Go.Proofs.YtohlmkcgempdlaaGreatDoorW.PrintWords Go.Proofs.YtohlmkcgempdlaaGreatDoorW.PrintLast Go.Proofs.YtohlmkcgempdlaaGreatDoor.QD
def Af4 (bs : List UInt8) : List Int := bs.map fun b => (b.toNat : Int)
theorem Aw4 (a b : List UInt8) : Af4 (a ++ b) = Af4 a ++ Af4 b := by simp [Af4]
theorem Al7 (a : List UInt8) : (Af4 a).length = a.length := by simp [Af4]
theorem Bf1 (a : List UInt8) : encs (Value.int .u8) (Af4 a) = Lib.byteCells a := by simp [encs, Af4, Lib.byteCells]
theorem infoU8 : (Tryz.prog.info? 5).map (fun i => (i.zero, i.size, i.bytes)) = some (some (.int .u8 0), 1, 1) := by kernel_rfl
structure Tx8 (B g : Nat) (bs : List UInt8) (w : World) : Prop where
 box : ∃ v, w.heap[g]? = some (.cells #[v] 246 (0, 0)) ∧ Kd.R (Kd.int .u8) 5 w B (fun _ => True) v (Af4 bs)
 hB : B ≤ g
 tab : Lib.TabBelow Tryz.prog B w "internal/strconv.uint64pow10" .u64 Lib.pow10Tab
structure Fr8 (B g : Nat) (w w' : World) : Prop where
 bel : Below B w w'
 oth : Lib.OthersKept 5 (some g) w w'
theorem Fr8.refl (B g : Nat) (w : World) : Fr8 B g w w := ⟨Below.refl _ _, Lib.OthersKept.refl _ _ _⟩
theorem Fr8.trans {B g : Nat} {w w1 w2 : World} (h : Fr8 B g w w1) (k : Fr8 B g w1 w2) : Fr8 B g w w2 := ⟨h.bel.trans k.bel, h.oth.trans k.oth⟩
theorem Fr8.blk {B g : Nat} {w w1 : World} (h : Fr8 B g w w1) {k : Nat} {t : TypeId} {cs : Array Value} (hk : w.heap[k]? = some (.cells cs t (0, 0))) (ht : t ≠ 5) (hg : k ≠ g) : w1.heap[k]? = some (.cells cs t (0, 0)) :=
 h.oth k _ hk (by simpa using hg) (fun c fz e => by injection e with _ e2 _; exact ht e2)
theorem Fr8.alloc {B g : Nat} {w : World} (hb : B ≤ w.heap.size) (o : Obj) : Fr8 B g w (w.alloc o) :=
 ⟨(Below.refl _ _).alloc hb o, fun k _ hk _ _ => (Below.heap_alloc w o k (Array.getElem?_eq_some_iff.1 hk).1).trans hk⟩
theorem Fr8.store {B g : Nat} {w : World} (hb : B ≤ g) (u : Value) : Fr8 B g w (w.setCell ⟨g, 0, none⟩ u) :=
 ⟨(Below.refl _ _).setCell hb u, fun k o hk hg _ => (Below.heap_setCell w ⟨g, 0, none⟩ u k (by rintro rfl; exact hg rfl)).trans hk⟩
theorem Fr8.grown {B g : Nat} {w w1 : World} {v : Value} {l : List Int} (hr : Kd.R (Kd.int .u8) 5 w B (fun _ => True) v l) (hg : w.grownBy w1 v.ownBlock) (hb : Below B w w1) : Fr8 B g w w1 := by
 refine ⟨hb, fun k o hk _ ht => (hg.block k (Array.getElem?_eq_some_iff.1 hk).1 ?_).trans hk⟩
 intro e
 obtain ⟨_, inner, ho, _⟩ := hr
 obtain ⟨cells, hc⟩ := Aj2 ho k e.symm
 rw [hk] at hc
 injection hc with hc
 exact ht _ _ hc
set_option maxRecDepth 100000 in
theorem keyF_yes (B g : Nat) (bs : List UInt8) (w : World) (h : Tx8 B g bs w) (hb : B ≤ w.heap.size) (hl : bs.length + 1 ≤ 140737488355328) :
  Calls Tryz.prog 188 #[.bool true, .pointer (some ⟨g, 0, none⟩)] w fun e w' => e = .returned (.tuple #[]) ∧ Tx8 B g (bs ++ [43]) w' ∧ Fr8 B g w w' := by
 obtain ⟨⟨v, hbx, hr⟩, hB, htab⟩ := h
 have hc : w.cell? ⟨g, 0, none⟩ = some v := (Aa0 hbx 0).trans rfl
 have HT := zA htab
 have HB := zA hbx
 have HR := zA hr
 clear htab hbx hr
 go_enter Tryz.func188, Tryz.ntmps188
 go_wp2_with (at_builtin; refine Kd.Af9 (Kd.int .u8) (w0 := w) B rfl (.tmp 4) (.tmp 5) 246 5 (.int .u8 0) 1 rfl Tryz.underlying246 infoU8 rfl (by decide) (by omega) v (Af4 bs) 43 [.int .u8 43] (fun _ => True) (fun _ => False) rfl rfl rfl (fun _ hk => hk.elim) (fun _ _ => trivial) HR.out (Below.refl _ _) hb (by rw [Al7]; omega) ?_; intro v1 w1 ho hb1 hg hat; have HB1 := Ab5 HB.out hg (Kd.R_ne HR.out HB.out (by decide)); have hc1 : w1.cell? ⟨g, 0, none⟩ = some v := (Aa0 HB1 0).trans rfl; have hf1 : w1.frozen? ⟨g, 0, none⟩ = false := Aa1 HB1 0; have HB2 := zA HB1; clear HB1; obtain ⟨A1, c1, e1⟩ := Kd.Aa9 ho; subst e1; have HO := zA ho; have HG := zA hg; have HBB := zA hb1; clear ho hg hb1 hat)
 go_end0
 have f1 : Fr8 B g w w1 := Fr8.grown HR.out HG.out HBB.out
 refine ⟨rfl, ⟨⟨_, Aa7 HB2.out 0 _, ?_⟩, hB, HT.out.on (f1.trans (Fr8.store hB _)).bel⟩, f1.trans (Fr8.store hB _)⟩
 rw [Aw4]
 have hx := Kd.Ac3 HO.out HB2.out (by decide) 0 (.slice A1 ((Af4 bs).length + 1) c1)
 rw [List.length_append] at hx
 exact hx
set_option maxRecDepth 100000 in
theorem keyF_no (g : Nat) (w : World) : Calls Tryz.prog 188 #[.bool false, .pointer (some ⟨g, 0, none⟩)] w fun e w' => e = .returned (.tuple #[]) ∧ w' = w := by
 go_enter Tryz.func188, Tryz.ntmps188
 go_wp2_with fail
 go_end0
 exact ⟨rfl, rfl⟩
def Aj6 (b : Bool) : List UInt8 := if b then [43] else []
theorem Ax6 (B g : Nat) (bs : List UInt8) (b : Bool) (w : World) (h : Tx8 B g bs w) (hb : B ≤ w.heap.size) (hl : bs.length + 1 ≤ 140737488355328) :
  Calls Tryz.prog 188 #[.bool b, .pointer (some ⟨g, 0, none⟩)] w fun e w' => e = .returned (.tuple #[]) ∧ Tx8 B g (bs ++ Aj6 b) w' ∧ Fr8 B g w w' := by
 cases b with
 | true => exact keyF_yes B g bs w h hb hl
 | false =>
  refine (keyF_no g w).mono fun e w' ⟨he, hw⟩ => ?_
  subst hw
  exact ⟨he, by simpa [Aj6] using h, Fr8.refl _ _ _⟩
def numT (i : Int) : List UInt8 := Lib.itoa i ++ [32]
def N64 (i : Int) : Prop := -9223372036854775808 ≤ i ∧ i ≤ 9223372036854775807
theorem Ce5 {w : World} {B n : Nat} {v : Value} {bs : List UInt8} (h : w.ownsRow B 5 1 v n (Lib.byteCells bs)) (hn : n = bs.length) : Kd.R (Kd.int .u8) 5 w B (fun _ => True) v (Af4 bs) := by
 subst hn
 refine Kd.Bz6 ?_ (fun _ _ => trivial)
 rw [Al7, Bf1]
 exact h
theorem Cd8 {w : World} {B : Nat} {v : Value} {bs : List UInt8} (h : Kd.R (Kd.int .u8) 5 w B (fun _ => True) v (Af4 bs)) : w.ownsRow B 5 1 v bs.length (Lib.byteCells bs) := by
 have := Kd.Bl2 h
 rw [Al7, Bf1] at this
 exact this
set_option maxRecDepth 100000 in
theorem Ai4 (B g : Nat) (bs : List UInt8) (i : Int) (w : World) (h : Tx8 B g bs w) (hb : B ≤ w.heap.size) (hi : N64 i) (hl : bs.length + 22 ≤ 140737488355328) (hl2 : bs.length + (Lib.itoa i).length + 1 ≤ 140737488355328) :
  Calls Tryz.prog 186 #[.int .i64 i, .pointer (some ⟨g, 0, none⟩)] w fun e w' => e = .returned (.tuple #[]) ∧ Tx8 B g (bs ++ numT i) w' ∧ Fr8 B g w w' := by
 obtain ⟨⟨v, hbx, hr⟩, hB, htab⟩ := h
 obtain ⟨i0, i1⟩ := hi
 have hc : w.cell? ⟨g, 0, none⟩ = some v := (Aa0 hbx 0).trans rfl
 have HT := zA htab
 have HB := zA hbx
 have HR := zA hr
 clear htab hbx hr
 go_enter Tryz.func186, Tryz.ntmps186
 go_upto_region 1 with (go_at_call 187; refine (Tryz.strconv_AppendInt_10 B bs.length i i0 i1 v _ _ (Cd8 HR.out) hb (by omega) HT.out).mono ?_; rintro e w1 ⟨v1, rfl, ho1, hb1, hk1⟩; have HB1 := hk1 g _ HB.out (by simp) (fun c fz e => by injection e with _ e2 _; exact absurd e2 (by decide)); have hc1 : w1.cell? ⟨g, 0, none⟩ = some v := (Aa0 HB1 0).trans rfl; have hf1 : w1.frozen? ⟨g, 0, none⟩ = false := Aa1 HB1 0; have HB2 := zA HB1; clear HB1; have HR1 := zA (Ce5 (bs := bs ++ Lib.itoa i) (by rw [Lib.byteCells_append]; exact ho1) (by simp)); obtain ⟨A1, c1, e1⟩ := Kd.Aa9 HR1.out; subst e1; have HK1 := zA hk1; have HBB := zA hb1; clear ho1 hk1 hb1)
 have f1 : Fr8 B g w w1 := ⟨HBB.out, fun k o hk _ ht => HK1.out k o hk (by simp) ht⟩
 have F3 := zA (f1.trans (Fr8.store (w := w1) hB (.slice A1 (Af4 (bs ++ Lib.itoa i)).length c1)))
 have HB3 := zA (Aa7 HB2.out 0 (.slice A1 (Af4 (bs ++ Lib.itoa i)).length c1))
 have HR3 := zA (Kd.Ac3 HR1.out HB2.out (by decide) 0 (.slice A1 (Af4 (bs ++ Lib.itoa i)).length c1))
 have hz : B ≤ (w1.setCell ⟨g, 0, none⟩ (.slice A1 (Af4 (bs ++ Lib.itoa i)).length c1)).heap.size := by have := HBB.out.size; simp; omega
 have HL : Aa2 (((Af4 (bs ++ Lib.itoa i)).length + 1) * 1 ≤ 140737488355328) := ⟨by rw [Al7, List.length_append]; omega⟩
 clear f1
 generalize w1.setCell ⟨g, 0, none⟩ (.slice A1 (Af4 (bs ++ Lib.itoa i)).length c1) = w3 at F3 HB3 HR3 hz ⊢
 have hc3 : w3.cell? ⟨g, 0, none⟩ = some (.slice A1 (Af4 (bs ++ Lib.itoa i)).length c1) := (Aa0 HB3.out 0).trans rfl
 go_wp2_with (at_builtin; refine Kd.Af9 (Kd.int .u8) (w0 := w3) B rfl (.tmp 6) (.tmp 7) 246 5 (.int .u8 0) 1 rfl Tryz.underlying246 infoU8 rfl (by decide) (by decide) (.slice A1 (Af4 (bs ++ Lib.itoa i)).length c1) (Af4 (bs ++ Lib.itoa i)) 32 [.int .u8 32] (fun _ => True) (fun _ => False) rfl rfl rfl (fun _ hk => hk.elim) (fun _ _ => trivial) HR3.out (Below.refl _ _) hz HL.out ?_; intro v2 w2 ho hb2 hg hat; have HB4 := zA (Ab5 HB3.out hg (Kd.R_ne HR3.out HB3.out (by decide))); have hc2 : w2.cell? ⟨g, 0, none⟩ = some (.slice A1 (Af4 (bs ++ Lib.itoa i)).length c1) := (Aa0 HB4.out 0).trans rfl; have hf2 : w2.frozen? ⟨g, 0, none⟩ = false := Aa1 HB4.out 0; obtain ⟨A2, c2, e2⟩ := Kd.Aa9 ho; subst e2; have HO := zA ho; have HG := zA hg; have HB5 := zA hb2; clear ho hg hb2 hat)
 go_end0
 have f3 := (F3.out.trans (Fr8.grown HR3.out HG.out HB5.out)).trans (Fr8.store (w := w2) hB (.slice A2 ((Af4 (bs ++ Lib.itoa i)).length + 1) c2))
 refine ⟨rfl, ⟨⟨_, Aa7 HB4.out 0 _, ?_⟩, hB, HT.out.on f3.bel⟩, f3⟩
 have e : Af4 (bs ++ numT i) = Af4 (bs ++ Lib.itoa i) ++ [32] := by
  have e0 : bs ++ numT i = (bs ++ Lib.itoa i) ++ [32] := by simp [numT]
  rw [e0, Aw4]
  rfl
 rw [e]
 have hx := Kd.Ac3 HO.out HB4.out (by decide) 0 (.slice A2 ((Af4 (bs ++ Lib.itoa i)).length + 1) c2)
 rw [List.length_append] at hx
 exact hx
end Go.Proofs.YtohlmkcgempdlaaGreatDoor.Cn
namespace Go.Proofs.YtohlmkcgempdlaaGreatDoor.Cn
open Go.RowKit Go.Proofs.YtohlmkcgempdlaaGreatDoorW.PrintWords Go.Proofs.YtohlmkcgempdlaaGreatDoorW.PrintLast Go.Proofs.YtohlmkcgempdlaaGreatDoor.QD
def valT (v : S39) : List UInt8 := numT v.f0 ++ Aj6 v.f1 ++ numT v.f2
theorem Ap7 (i : Int) (h : N64 i) : (Lib.itoa i).length ≤ 21 := Lib.itoa_length_le i h.1 h.2
theorem Ax4 (i : Int) (h : N64 i) : (numT i).length ≤ 22 := by
 have := Ap7 i h
 simp [numT]
 omega
theorem Aw2 (b : Bool) : (Aj6 b).length ≤ 1 := by cases b <;> simp [Aj6]
structure Fn8 (B g gn gf : Nat) (w : World) : Prop where
 n : w.heap[gn]? = some (.cells #[.func (.func 186) #[] #[.pointer (some ⟨g, 0, none⟩)]] 106 (0, 0))
 f : w.heap[gf]? = some (.cells #[.func (.func 188) #[] #[.pointer (some ⟨g, 0, none⟩)]] 248 (0, 0))
 nn : gn ≠ g
 nf : gf ≠ g
theorem Fn8.on {B g gn gf : Nat} {w w1 : World} (h : Fn8 B g gn gf w) (f : Fr8 B g w w1) : Fn8 B g gn gf w1 := ⟨f.blk h.n (by decide) h.nn, f.blk h.f (by decide) h.nf, h.nn, h.nf⟩
theorem Tx8.lt {B g : Nat} {bs : List UInt8} {w : World} (h : Tx8 B g bs w) : g < w.heap.size := by
 obtain ⟨⟨v, hb, _⟩, _, _⟩ := h
 exact Ac0 hb
theorem Tx8.alloc {B g : Nat} {bs : List UInt8} {w : World} (h : Tx8 B g bs w) (hb : B ≤ w.heap.size) (o : Obj) : Tx8 B g bs (w.alloc o) := by
 obtain ⟨⟨v, hbx, hr⟩, hB, ht⟩ := h
 exact ⟨⟨v, Aa5 hbx o, Kd.R_alloc hr o⟩, hB, ht.on (Fr8.alloc (g := g) hb o).bel⟩
set_option maxRecDepth 100000 in
theorem Ax5 (B g gn gf : Nat) (bs : List UInt8) (n : Int) (b : Bool) (h : Int) (w : World) (ht : Tx8 B g bs w) (hf : Fn8 B g gn gf w) (hb : B ≤ w.heap.size) (hn : N64 n) (hh : N64 h) (hl : bs.length + 100 ≤ 140737488355328) :
  Calls Tryz.prog 189 #[.agg #[.int .i64 n, .bool b, .int .i64 h], .pointer (some ⟨gn, 0, none⟩), .pointer (some ⟨gf, 0, none⟩)] w fun e w' => e = .returned (.tuple #[]) ∧ Tx8 B g (bs ++ valT ⟨n, b, h⟩) w' ∧ Fr8 B g w w' := by
 have l1 := Ax4 n hn
 have l2 := Aw2 b
 have l3 := Ap7 n hn
 have l4 := Ap7 h hh
 have lt0 := ht.lt
 have bx := Aa6 w (.cells #[.int .i64 n, .bool b, .int .i64 h] 39)
 have HT := zA (ht.alloc hb (.cells #[.int .i64 n, .bool b, .int .i64 h] 39))
 have HF := zA (hf.on (Fr8.alloc (g := g) hb (.cells #[.int .i64 n, .bool b, .int .i64 h] 39)))
 have HA := zA (Fr8.alloc (g := g) (w := w) hb (.cells #[.int .i64 n, .bool b, .int .i64 h] 39))
 have HN := zA hn
 have HH := zA hh
 have hne : w.heap.size ≠ g := by omega
 have cn : (w.alloc (.cells #[.int .i64 n, .bool b, .int .i64 h] 39)).cell? ⟨gn, 0, none⟩ = some (.func (.func 186) #[] #[.pointer (some ⟨g, 0, none⟩)]) := (Aa0 HF.out.n 0).trans rfl
 have BX := zA bx
 clear ht hf hn hh bx
 go_enter Tryz.func189, Tryz.ntmps189
 go_wp2_with fail
 refine (Ai4 B g bs n _ HT.out (by have := HA.out.bel.size; omega) HN.out (by omega) (by omega)).mono ?_
 rintro e w1 ⟨rfl, t1, f1⟩
 have HT1 := zA t1
 have HF1 := zA f1
 have BX1 := zA (f1.blk BX.out (by decide) hne)
 have FN1 := zA (HF.out.on f1)
 clear t1 f1
 have hz1 : B ≤ w1.heap.size := by have := HF1.out.bel.size; have := HA.out.bel.size; omega
 have e1 : w1.cell? ⟨w.heap.size, 1, none⟩ = some (.bool b) := (Aa0 BX1.out 1).trans rfl
 have e2 : w1.cell? ⟨gf, 0, none⟩ = some (.func (.func 188) #[] #[.pointer (some ⟨g, 0, none⟩)]) := (Aa0 FN1.out.f 0).trans rfl
 go_wp2_with fail
 refine (Ax6 B g (bs ++ numT n) b _ HT1.out hz1 (by rw [List.length_append]; omega)).mono ?_
 rintro e w2 ⟨rfl, t2, f2⟩
 have HT2 := zA t2
 have HF2 := zA f2
 have BX2 := zA (f2.blk BX1.out (by decide) hne)
 have FN2 := zA (FN1.out.on f2)
 clear t2 f2
 have hz2 : B ≤ w2.heap.size := by have := HF2.out.bel.size; omega
 have e3 : w2.cell? ⟨w.heap.size, 2, none⟩ = some (.int .i64 h) := (Aa0 BX2.out 2).trans rfl
 have e4 : w2.cell? ⟨gn, 0, none⟩ = some (.func (.func 186) #[] #[.pointer (some ⟨g, 0, none⟩)]) := (Aa0 FN2.out.n 0).trans rfl
 go_wp2_with fail
 refine (Ai4 B g (bs ++ numT n ++ Aj6 b) h _ HT2.out hz2 HH.out (by simp only [List.length_append]; omega) (by simp only [List.length_append]; omega)).mono ?_
 rintro e w3 ⟨rfl, t3, f3⟩
 go_wp2_with fail
 go_end0
 refine ⟨rfl, ?_, ((HA.out.trans HF1.out).trans HF2.out).trans f3⟩
 have e : bs ++ valT ⟨n, b, h⟩ = bs ++ numT n ++ Aj6 b ++ numT h := by simp [valT]
 rw [e]
 exact t3
theorem Bs5 (v : S39) (h0 : N64 v.f0) (h2 : N64 v.f2) : (valT v).length ≤ 45 := by
 have := Ax4 v.f0 h0
 have := Ax4 v.f2 h2
 have := Aw2 v.f1
 simp only [valT, List.length_append]
 omega
def Al1 (f : S172) : List UInt8 := Aj6 f.f1 ++ valT f.f0
def subT (s : S123) : List UInt8 :=
 Aj6 s.f0 ++ numT s.f1.length ++ s.f1.flatMap numT ++ numT s.f2.f0 ++ numT s.f2.f1.length ++ s.f2.f1.flatMap valT ++ numT s.f2.f2.length ++ s.f2.f2.flatMap valT ++ numT s.f2.f3.length ++ s.f2.f3.flatMap Al1
def keyT (l : List S123) : List UInt8 := l.flatMap subT
structure S64 (s : S123) : Prop where
 n1 : ∀ h ∈ s.f1, N64 h
 k : N64 s.f2.f0
 n2 : ∀ v ∈ s.f2.f1, N64 v.f0 ∧ N64 v.f2
 n3 : ∀ v ∈ s.f2.f2, N64 v.f0 ∧ N64 v.f2
 n4 : ∀ v ∈ s.f2.f3, N64 v.f0.f0 ∧ N64 v.f0.f2
theorem Ai6 {α : Type} (g : α → List UInt8) (l : List α) (j : Nat) (x : α) (h : l[j]? = some x) : (l.take (j + 1)).flatMap g = (l.take j).flatMap g ++ g x := by
 rw [List.take_add_one, h]
 simp
theorem Ae8 {α : Type} (g : α → List UInt8) (l : List α) (j : Nat) : ((l.take j).flatMap g).length ≤ (l.flatMap g).length := by
 have e : l.flatMap g = (l.take j).flatMap g ++ (l.drop j).flatMap g := by rw [← List.flatMap_append, List.take_append_drop]
 rw [e, List.length_append]
 omega
theorem Az8 {α : Type} (g : α → List UInt8) (l : List α) (j : Nat) (x : α) (h : l[j]? = some x) : ((l.take j).flatMap g).length + (g x).length ≤ (l.flatMap g).length := by
 have := Ae8 g l (j + 1)
 rw [Ai6 g l j x h, List.length_append] at this
 exact this
structure KX (B g gn gf : Nat) (w0 : World) (bs : List UInt8) (W : World) : Prop where
 t : Tx8 B g bs W
 f : Fn8 B g gn gf W
 fr : Fr8 B g w0 W
 z : B ≤ W.heap.size
theorem KX.alloc {B g gn gf : Nat} {w0 W : World} {bs : List UInt8} (h : KX B g gn gf w0 bs W) (o : Obj) : KX B g gn gf w0 bs (W.alloc o) :=
 ⟨h.t.alloc h.z o, h.f.on (Fr8.alloc h.z o), h.fr.trans (Fr8.alloc h.z o), by simp; have := h.z; omega⟩
theorem KX.on {B g gn gf : Nat} {w0 W W' : World} {bs bs' : List UInt8} (h : KX B g gn gf w0 bs W) (t : Tx8 B g bs' W') (f : Fr8 B g W W') : KX B g gn gf w0 bs' W' :=
 ⟨t, h.f.on f, h.fr.trans f, Nat.le_trans h.z f.bel.size⟩
theorem KX.lt {B g gn gf : Nat} {w0 W : World} {bs : List UInt8} (h : KX B g gn gf w0 bs W) : g ≠ W.heap.size := Nat.ne_of_lt h.t.lt
theorem KX.to {B g gn gf : Nat} {w0 W : World} {bs bs' : List UInt8} (h : KX B g gn gf w0 bs W) (e : bs = bs') : KX B g gn gf w0 bs' W := e ▸ h
end Go.Proofs.YtohlmkcgempdlaaGreatDoor.Cn
