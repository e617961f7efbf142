/- canon.mapped's closure over value types. -/
import Derived.Test.YtfgglniigeagdaaDoorTx
namespace Go.Proofs.YtfgglniigeagdaaDoor.Cn
open Go.RowKit Go.Proofs.YtfgglniigeagdaaDoorW.PrintWords Go.Proofs.YtfgglniigeagdaaDoor.QD
/-- A value type, its heap type turned; a number type alone. -/
def mval {σ : Type} (f : σ → Int → σ × Int) (s : σ) (v : S74) : σ × S74 := if v.f0 = 5 then ((f s v.f2).1, ⟨v.f0, v.f1, (f s v.f2).2⟩) else (s, ⟨v.f0, false, 0⟩)
set_option maxRecDepth 100000 in
theorem mappedV_calls {base : Nat} {row : Option Nat} {σ : Type} {Q : Int → Prop} {St : σ → World → Prop} {f : σ → Int → σ × Int} {fv : Value} (C : Cb base row Q St f fv) (s : σ) (n : Int) (b : Bool) (h : Int) (g : Nat) (w : World)
    (hg : w.cell? ⟨g, 0, none⟩ = some fv) (hb : base ≤ w.heap.size) (hq : n = 5 → Q h) (hs : St s w) :
    Calls Tryd.prog 67 #[.agg #[.int .i64 n, .bool b, .int .i64 h], .pointer (some ⟨g, 0, none⟩)] w fun e w' =>
      e = .returned (.agg #[.int .i64 (mval f s ⟨n, b, h⟩).2.f0, .bool (mval f s ⟨n, b, h⟩).2.f1, .int .i64 (mval f s ⟨n, b, h⟩).2.f2]) ∧ St (mval f s ⟨n, b, h⟩).1 w' ∧ w.grownBy w' row := by
  obtain ⟨k, cap, rfl, hcf, hcall⟩ := C.call
  have hlt : g < w.heap.size := World.block_lt_of_cell? w _ hg
  have hlt1 : g < w.heap.size + 1 := by omega
  have HQ := Aside0.mk hq
  have HS := Aside0.mk hs
  have HB := Aside0.mk hb
  have HCALL := Aside0.mk hcall
  clear hq hs hcall hb
  by_cases h5 : n = 5
  · subst h5
    go_enter Tryd.func67, Tryd.ntmps67
    go_wp2_with fail
    refine (HCALL.out s h _ (by have := HB.out; simp; omega) (HQ.out trivial) (C.below HB.out HS.out (((Below.refl _ _).alloc HB.out _).alloc (by have := HB.out; simp; omega) _) (by simp; omega))).mono ?_
    rintro e w1 ⟨rfl, hS, hgr⟩
    have hne : ∀ i, w.heap.size ≤ i → some i ≠ row := fun i hi e => by have := C.row_lt i e.symm; have := HB.out; omega
    have b0 : w1.heap[w.heap.size]? = some (.cells #[.int .i64 5, .bool b, .int .i64 h] 74 (0, 0)) := (hgr.block _ (by simp; omega) (hne _ (Nat.le_refl _))).trans ((Below.heap_alloc _ _ _ (by simp)).trans (heap_alloc_new w _))
    have b1 : w1.heap[w.heap.size + 1]? = some (.cells #[.int .i64 0, .bool false, .int .i64 0] 74 (0, 0)) := (hgr.block _ (by simp) (hne _ (by omega))).trans (by have := heap_alloc_new (w.alloc (.cells #[.int .i64 5, .bool b, .int .i64 h] 74)) (.cells #[.int .i64 0, .bool false, .int .i64 0] 74); simpa using this)
    have c0 := (blk_cell b0 0).trans rfl
    have c1 := (blk_cell b0 1).trans rfl
    have c2 := (blk_cell b0 2).trans rfl
    have d0 := (blk_cell b1 0).trans rfl
    have d1 := (blk_cell b1 1).trans rfl
    have d2 := (blk_cell b1 2).trans rfl
    have f0 := blk_frozen b0 0
    have f1 := blk_frozen b0 1
    have f2 := blk_frozen b0 2
    have g0 := blk_frozen b1 0
    have g1 := blk_frozen b1 1
    have g2 := blk_frozen b1 2
    have HB0 := Aside0.mk b0
    have HB1 := Aside0.mk b1
    have HGR := Aside0.mk hgr
    have HSS := Aside0.mk hS
    clear b0 b1 hgr hS hne
    go_wp2
    have hB := HB.out
    refine bodyPost_ret (results_cell_row rfl _ _ (w.heap.size + 1) 74 #[.int .i64 5, .bool b, .int .i64 (f s h).2] (0, 0) _ rfl (blk_set (blk_set (blk_set (blk_far HB1.out (by simp) _) 0 _) 1 _) 2 _) Tryd.underlying74 rfl (by kernel_rfl)) rfl ?_
    have e : mval f s ⟨5, b, h⟩ = ((f s h).1, ⟨5, b, (f s h).2⟩) := rfl
    rw [e]
    refine ⟨rfl, ?_, ?_⟩
    · refine C.below (w := w1) (by have := HGR.out.size; simp at this; omega) HSS.out ?_ (by simp)
      exact (((((Below.refl _ _).setCell hB _).setCell (by show base ≤ w.heap.size + 1; omega) _).setCell (by show base ≤ w.heap.size + 1; omega) _).setCell (by show base ≤ w.heap.size + 1; omega) _)
    · exact (((((((But.refl row (Nat.le_refl _)).alloc _).alloc _).grown HGR.out (fun g e => .inr e.symm)).set (Nat.le_refl _) _ _).set (Nat.le_succ _) _ _).set (Nat.le_succ _) _ _ |>.set (Nat.le_succ _) _ _).to_grown
  · have e : mval f s ⟨n, b, h⟩ = (s, ⟨n, false, 0⟩) := by simp [mval, h5]
    rw [e]
    go_enter Tryd.func67, Tryd.ntmps67
    go_wp2_with fail
    have hB := HB.out
    refine bodyPost_ret (v := .agg #[.int .i64 n, .bool false, .int .i64 0]) (by simp [results, Tryd.results67, go_sem]) rfl ?_
    refine ⟨rfl, ?_, ?_⟩
    · exact C.below (w := w) HB.out HS.out (((Below.refl _ _).alloc hB _).alloc (by simp; omega) _) (by simp; omega)
    · exact ((((But.refl row (Nat.le_refl _)).alloc _).alloc _)).to_grown
end Go.Proofs.YtfgglniigeagdaaDoor.Cn
