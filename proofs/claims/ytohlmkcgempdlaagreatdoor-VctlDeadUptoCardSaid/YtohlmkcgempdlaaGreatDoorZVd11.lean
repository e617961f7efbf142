/- Parts of the proof of vctlDead_holds (11 of 24): what it says and shows stands at its declarations. -/
import Derived.Test.YtohlmkcgempdlaaGreatDoorZVd10
import Derived.LoopTactic
import Derived.Laws.EntriesVeiled
namespace Go.Proofs.YtohlmkcgempdlaaGreatDoor.Cn
set_option linter.unusedSimpArgs false
set_option maxRecDepth 100000
set_option linter.unusedVariables false
open Go.RowKit Go.Proofs.YtohlmkcgempdlaaGreatDoorW.PrintWords Go.Proofs.YtohlmkcgempdlaaGreatDoorW.PrintLast Go.Proofs.YtohlmkcgempdlaaGreatDoor.QD
theorem rd_ST_at (l : List S123) (j : Nat) (h : j < l.length) : l[j]? = some (rd_T123 l (j : Int)) := by simp [rd_T123, List.getD_eq_getElem?_getD, List.getElem?_eq_getElem h]
theorem rd_VT_at (l : List S39) (j : Nat) (h : j < l.length) : l[j]? = some (rd_T39 l (j : Int)) := by simp [rd_T39, List.getD_eq_getElem?_getD, List.getElem?_eq_getElem h]
theorem rd_FT_at (l : List S172) (j : Nat) (h : j < l.length) : l[j]? = some (rd_T172 l (j : Int)) := by simp [rd_T172, List.getD_eq_getElem?_getD, List.getElem?_eq_getElem h]
theorem rd_int_at (l : List Int) (j : Nat) (h : j < l.length) : l[j]? = some (rd l (j : Int)) := by simp [rd, List.getD_eq_getElem?_getD, List.getElem?_eq_getElem h]
theorem str_bytesI (bs : List UInt8) : (strOfNums (bytesI bs)).data.toList = bs := by
 unfold strOfNums bytesI
 simp [List.map_map, Function.comp_def]
theorem KX.start (w : World) (htab : Lib.TabBelow Tryz.prog w.heap.size w "internal/strconv.uint64pow10" .u64 Lib.pow10Tab) : KX w.heap.size (w.heap.size) (w.heap.size + 1) (w.heap.size + 1 + 1) w []
  (((w.alloc (.cells #[.slice none 0 0] 246)).alloc (.cells #[.func (.func 186) #[] #[.pointer (some ⟨w.heap.size, 0, none⟩)]] 106)).alloc (.cells #[.func (.func 188) #[] #[.pointer (some ⟨w.heap.size, 0, none⟩)]] 248)) := by
 have f1 : Fr8 w.heap.size w.heap.size w (w.alloc (.cells #[.slice none 0 0] 246)) := Fr8.alloc (Nat.le_refl _) _
 have f2 := f1.trans (Fr8.alloc (g := w.heap.size) (w := w.alloc (.cells #[.slice none 0 0] 246)) (by simp) (.cells #[.func (.func 186) #[] #[.pointer (some ⟨w.heap.size, 0, none⟩)]] 106))
 have f3 := f2.trans (Fr8.alloc (g := w.heap.size) (w := (w.alloc (.cells #[.slice none 0 0] 246)).alloc (.cells #[.func (.func 186) #[] #[.pointer (some ⟨w.heap.size, 0, none⟩)]] 106)) (by simp; omega) (.cells #[.func (.func 188) #[] #[.pointer (some ⟨w.heap.size, 0, none⟩)]] 248))
 refine ⟨⟨⟨.slice none 0 0, blk_alloc (blk_alloc (blk_new w _) _) _, Kd.R_nil _ _ _ _ _⟩, Nat.le_refl _, htab.on f3.bel⟩, ⟨?_, ?_, by omega, by omega⟩, f3, by simp; omega⟩
 ·exact blk_alloc (by have := blk_new (w.alloc (.cells #[.slice none 0 0] 246)) (.cells #[.func (.func 186) #[] #[.pointer (some ⟨w.heap.size, 0, none⟩)]] 106); simpa using this) _
 ·have := blk_new ((w.alloc (.cells #[.slice none 0 0] 246)).alloc (.cells #[.func (.func 186) #[] #[.pointer (some ⟨w.heap.size, 0, none⟩)]] 106)) (.cells #[.func (.func 188) #[] #[.pointer (some ⟨w.heap.size, 0, none⟩)]] 248)
  simpa using this
set_option maxHeartbeats 8000000 in
theorem key_calls (A : Option Addr) (c : Nat) (l : List S123) (w : World) (hr : Kd.C k123 w A l.length l) (h64 : ∀ x ∈ l, S64 x) (hl : (keyT l).length + 200 ≤ 140737488355328)
  (htab : Lib.TabBelow Tryz.prog w.heap.size w "internal/strconv.uint64pow10" .u64 Lib.pow10Tab) :
  Calls Tryz.prog 177 #[.slice A l.length c] w fun e w' => ∃ s : ByteArray, e = .returned (.string s) ∧ s.data.toList = keyT l ∧ Below w.heap.size w w' := by
 have hm := hr.2.1
 have TS := KX.start w htab
 have HR := Aside0.mk hr
 have H64 := Aside0.mk h64
 have HL := Aside0.mk hl
 clear hr h64 htab hl
 go_enter Tryz.func177, Tryz.ntmps177
 go_wp2_with fail
 go_loopw [23] (fun i W => ∃ j : Nat, i = .int .i64 j ∧ j ≤ l.length ∧ KX w.heap.size (w.heap.size) (w.heap.size + 1) (w.heap.size + 1 + 1) w (keyT (l.take j)) W) (fun i _ => l.length - (intOf i).toNat)
 case atStart => exact ⟨0, rfl, Nat.zero_le _, TS⟩
 case round =>
  clear TS
  obtain ⟨j, rfl, hj, hK⟩ := hrel
  by_cases hlt : j < l.length
  ·obtain ⟨wo, rfl⟩ : ∃ wo : World, wo = wr := ⟨_, rfl⟩
   obtain ⟨ad, A1, c1, A3, c3, A4, c4, A5, c5, rfl, d0, d1, d2, d3, d4, d5, m1, r1, m3, r3, m4, r4, m5, r5⟩ := at_T123 HR.out j (by omega) (by omega)
   have HX := Aside0.mk (rd_ST_at l j hlt)
   obtain ⟨x, hx⟩ : ∃ x, x = rd_T123 l (j : Int) := ⟨_, rfl⟩
   rw [← hx] at d0 d1 d2 d3 d4 d5 m1 r1 m3 r3 m4 r4 m5 r5 HX
   clear hx
   have S6 := Aside0.mk (H64.out x (List.mem_of_getElem? HX.out))
   have LT : Aside0 ((keyT (l.take j)).length + (subT x).length + 200 ≤ 140737488355328) := ⟨by have h1 := flatMap_take_le' subT l j x HX.out; have h2 := HL.out; simp only [keyT] at *; omega⟩
   replace d0 := (hK.fr.bel.cell (World.block_lt_of_cell? w _ d0)).trans d0
   replace d1 := (hK.fr.bel.cell (World.block_lt_of_cell? w _ d1)).trans d1
   replace d2 := (hK.fr.bel.cell (World.block_lt_of_cell? w _ d2)).trans d2
   replace d3 := (hK.fr.bel.cell (World.block_lt_of_cell? w _ d3)).trans d3
   replace d4 := (hK.fr.bel.cell (World.block_lt_of_cell? w _ d4)).trans d4
   replace d5 := (hK.fr.bel.cell (World.block_lt_of_cell? w _ d5)).trans d5
   simp only [Int.toNat_natCast] at d0 d1 d2 d3 d4 d5
   have R1 := Aside0.mk r1
   have R3 := Aside0.mk r3
   have R4 := Aside0.mk r4
   have R5 := Aside0.mk r5
   have n1 := r1.2.1
   have n3 := r3.2.1
   have n4 := r4.2.1
   have n5 := r5.2.1
   clear r1 r3 r4 r5 m1 m3 m4 m5
   have K0 := Aside0.mk (hK.alloc (.cells #[.bool x.f0, .slice A1 x.f1.length c1, .int .i64 x.f2.f0, .slice A3 x.f2.f1.length c3, .slice A4 x.f2.f2.length c4, .slice A5 x.f2.f3.length c5] 123))
   have BX0 := Aside0.mk (blk_new wo (.cells #[.bool x.f0, .slice A1 x.f1.length c1, .int .i64 x.f2.f0, .slice A3 x.f2.f1.length c3, .slice A4 x.f2.f2.length c4, .slice A5 x.f2.f3.length c5] 123))
   have NE : Aside0 (wo.heap.size ≠ w.heap.size) := ⟨hK.lt.symm⟩
   have e1 : (wo.alloc (.cells #[.bool x.f0, .slice A1 x.f1.length c1, .int .i64 x.f2.f0, .slice A3 x.f2.f1.length c3, .slice A4 x.f2.f2.length c4, .slice A5 x.f2.f3.length c5] 123)).cell? ⟨w.heap.size + 1 + 1, 0, none⟩ = some (.func (.func 188) #[] #[.pointer (some ⟨w.heap.size, 0, none⟩)]) := (blk_cell K0.out.f.f 0).trans rfl
   clear hj
   go_wp2_with fail
   refine (keyF_calls _ _ (keyT (l.take j)) x.f0 _ K0.out.t K0.out.z (by have h := LT.out; simp only [subT, List.length_append] at h ⊢; omega)).mono ?_
   rintro e w1 ⟨rfl, t1, f1⟩
   clear e1
   have K1 := Aside0.mk (K0.out.on t1 f1)
   have BX1 := Aside0.mk (f1.blk BX0.out (by decide) NE.out)
   clear t1 f1
   have e2 : w1.cell? ⟨w.heap.size + 1, 0, none⟩ = some (.func (.func 186) #[] #[.pointer (some ⟨w.heap.size, 0, none⟩)]) := (blk_cell K1.out.f.n 0).trans rfl
   have e3 : w1.cell? ⟨wo.heap.size, 1, none⟩ = some (.slice A1 x.f1.length c1) := (blk_cell BX1.out 1).trans rfl
   go_wp2_with fail
   refine (keyN_calls _ _ (keyT (l.take j) ++ flagT x.f0) x.f1.length _ K1.out.t K1.out.z ⟨by omega, by omega⟩ (by have h := LT.out; simp only [subT, List.length_append] at h ⊢; omega) (by have h3 := itoa_le x.f1.length ⟨by omega, by omega⟩; have h := LT.out; simp only [subT, List.length_append] at h ⊢; omega)).mono ?_
   rintro e w2 ⟨rfl, t1, f1⟩
   clear e2 e3
   have K2 := Aside0.mk (K1.out.on t1 f1)
   have BX2 := Aside0.mk (f1.blk BX1.out (by decide) NE.out)
   clear t1 f1
   have e4 : w2.cell? ⟨wo.heap.size, 1, none⟩ = some (.slice A1 x.f1.length c1) := (blk_cell BX2.out 1).trans rfl
   go_wp2_with fail
   go_loopw [39] (fun i W => ∃ k : Nat, i = .int .i64 k ∧ k ≤ x.f1.length ∧ KX w.heap.size (w.heap.size) (w.heap.size + 1) (w.heap.size + 1 + 1) w (keyT (l.take j) ++ flagT x.f0 ++ numT x.f1.length ++ (x.f1.take k).flatMap numT) W ∧ W.heap[wo.heap.size]? = some (.cells #[.bool x.f0, .slice A1 x.f1.length c1, .int .i64 x.f2.f0, .slice A3 x.f2.f1.length c3, .slice A4 x.f2.f2.length c4, .slice A5 x.f2.f3.length c5] 123 (0, 0))) (fun i _ => x.f1.length - (intOf i).toNat)
   case atStart => exact ⟨0, rfl, Nat.zero_le _, K2.out.to (by simp), BX2.out⟩
   case round =>
    clear e4
    obtain ⟨k, rfl, hk, hK1, hbX⟩ := hrel
    have LaK := Aside0.mk hK1
    have LaBX := Aside0.mk hbX
    clear hK1 hbX
    by_cases hlk : k < x.f1.length
    ·skip
     obtain ⟨ae, ea, ha⟩ := Kd.at_int R1.out (k : Int) (by omega) (by omega)
     have HK := Aside0.mk (rd_int_at x.f1 k hlk)
     cases ea
     replace ha := (LaK.out.fr.bel.cell (World.block_lt_of_cell? w _ ha)).trans ha
     simp only [Int.toNat_natCast] at ha
     obtain ⟨y, hy⟩ : ∃ y, y = rd x.f1 (k : Int) := ⟨_, rfl⟩
     rw [← hy] at ha HK
     clear hy
     have e5 : wr.cell? ⟨w.heap.size + 1, 0, none⟩ = some (.func (.func 186) #[] #[.pointer (some ⟨w.heap.size, 0, none⟩)]) := (blk_cell LaK.out.f.n 0).trans rfl
     go_wp2_with fail
     refine (keyN_calls _ _ (keyT (l.take j) ++ flagT x.f0 ++ numT x.f1.length ++ (x.f1.take k).flatMap numT) y _ LaK.out.t LaK.out.z (S6.out.n1 y (List.mem_of_getElem? HK.out)) (by have h4 := flatMap_take_le numT x.f1 k; have h := LT.out; simp only [subT, List.length_append] at h ⊢; omega) (by have h3 := itoa_le y (S6.out.n1 y (List.mem_of_getElem? HK.out)); have h4 := flatMap_take_le numT x.f1 k; have h := LT.out; simp only [subT, List.length_append] at h ⊢; omega)).mono ?_
     rintro e w3 ⟨rfl, t1, f1⟩
     clear e5
     have K3 := Aside0.mk (LaK.out.on t1 f1)
     have BX3 := Aside0.mk (f1.blk LaBX.out (by decide) NE.out)
     clear t1 f1
     clear ha
     go_wp2_with fail
     go_roundw
     case rel => exact ⟨k + 1, by go_num, by omega, K3.out.to (by rw [flatMap_take numT x.f1 k _ HK.out]; simp [fieldT]), BX3.out⟩
     case measure => simp [intOf]; omega
    ·obtain rfl : k = x.f1.length := by omega
     rw [List.take_length] at LaK
     clear hk
     have e6 : wr.cell? ⟨wo.heap.size, 2, none⟩ = some (.int .i64 x.f2.f0) := (blk_cell LaBX.out 2).trans rfl
     have e7 : wr.cell? ⟨wo.heap.size, 3, none⟩ = some (.slice A3 x.f2.f1.length c3) := (blk_cell LaBX.out 3).trans rfl
     have e8 : wr.cell? ⟨wo.heap.size, 4, none⟩ = some (.slice A4 x.f2.f2.length c4) := (blk_cell LaBX.out 4).trans rfl
     have e9 : wr.cell? ⟨wo.heap.size, 5, none⟩ = some (.slice A5 x.f2.f3.length c5) := (blk_cell LaBX.out 5).trans rfl
     obtain ⟨wc, rfl⟩ : ∃ wc : World, wc = wr := ⟨_, rfl⟩
     have KC := Aside0.mk (LaK.out.alloc (.cells #[.int .i64 x.f2.f0, .slice A3 x.f2.f1.length c3, .slice A4 x.f2.f2.length c4, .slice A5 x.f2.f3.length c5] 121))
     have BXC := Aside0.mk (blk_alloc LaBX.out (.cells #[.int .i64 x.f2.f0, .slice A3 x.f2.f1.length c3, .slice A4 x.f2.f2.length c4, .slice A5 x.f2.f3.length c5] 121))
     have BCC := Aside0.mk (blk_new wc (.cells #[.int .i64 x.f2.f0, .slice A3 x.f2.f1.length c3, .slice A4 x.f2.f2.length c4, .slice A5 x.f2.f3.length c5] 121))
     have NC : Aside0 (wc.heap.size ≠ w.heap.size) := ⟨LaK.out.lt.symm⟩
     have e10 : (wc.alloc (.cells #[.int .i64 x.f2.f0, .slice A3 x.f2.f1.length c3, .slice A4 x.f2.f2.length c4, .slice A5 x.f2.f3.length c5] 121)).cell? ⟨w.heap.size + 1, 0, none⟩ = some (.func (.func 186) #[] #[.pointer (some ⟨w.heap.size, 0, none⟩)]) := (blk_cell KC.out.f.n 0).trans rfl
     go_wp2_with fail
     refine (keyN_calls _ _ (keyT (l.take j) ++ flagT x.f0 ++ numT x.f1.length ++ x.f1.flatMap numT) x.f2.f0 _ KC.out.t KC.out.z S6.out.k (by have h := LT.out; simp only [subT, List.length_append] at h ⊢; omega) (by have h3 := itoa_le x.f2.f0 S6.out.k; have h := LT.out; simp only [subT, List.length_append] at h ⊢; omega)).mono ?_
     rintro e w4 ⟨rfl, t1, f1⟩
     clear e6 e7 e8 e9 e10
     have K4 := Aside0.mk (KC.out.on t1 f1)
     have BX4 := Aside0.mk (f1.blk BXC.out (by decide) NE.out)
     have BC4 := Aside0.mk (f1.blk BCC.out (by decide) NC.out)
     clear t1 f1
     have e11 : w4.cell? ⟨w.heap.size + 1, 0, none⟩ = some (.func (.func 186) #[] #[.pointer (some ⟨w.heap.size, 0, none⟩)]) := (blk_cell K4.out.f.n 0).trans rfl
     have e12 : w4.cell? ⟨wc.heap.size, 1, none⟩ = some (.slice A3 x.f2.f1.length c3) := (blk_cell BC4.out 1).trans rfl
     go_wp2_with fail
     refine (keyN_calls _ _ (keyT (l.take j) ++ flagT x.f0 ++ numT x.f1.length ++ x.f1.flatMap numT ++ numT x.f2.f0) x.f2.f1.length _ K4.out.t K4.out.z ⟨by omega, by omega⟩ (by have h := LT.out; simp only [subT, List.length_append] at h ⊢; omega) (by have h3 := itoa_le x.f2.f1.length ⟨by omega, by omega⟩; have h := LT.out; simp only [subT, List.length_append] at h ⊢; omega)).mono ?_
     rintro e w5 ⟨rfl, t1, f1⟩
     clear e11 e12
     have K5 := Aside0.mk (K4.out.on t1 f1)
     have BX5 := Aside0.mk (f1.blk BX4.out (by decide) NE.out)
     have BC5 := Aside0.mk (f1.blk BC4.out (by decide) NC.out)
     clear t1 f1
     have e13 : w5.cell? ⟨wc.heap.size, 1, none⟩ = some (.slice A3 x.f2.f1.length c3) := (blk_cell BC5.out 1).trans rfl
     go_wp2_with fail
     go_loopw [61] (fun i W => ∃ k : Nat, i = .int .i64 k ∧ k ≤ x.f2.f1.length ∧ KX w.heap.size (w.heap.size) (w.heap.size + 1) (w.heap.size + 1 + 1) w (keyT (l.take j) ++ flagT x.f0 ++ numT x.f1.length ++ x.f1.flatMap numT ++ numT x.f2.f0 ++ numT x.f2.f1.length ++ (x.f2.f1.take k).flatMap valT) W ∧ W.heap[wo.heap.size]? = some (.cells #[.bool x.f0, .slice A1 x.f1.length c1, .int .i64 x.f2.f0, .slice A3 x.f2.f1.length c3, .slice A4 x.f2.f2.length c4, .slice A5 x.f2.f3.length c5] 123 (0, 0)) ∧ W.heap[wc.heap.size]? = some (.cells #[.int .i64 x.f2.f0, .slice A3 x.f2.f1.length c3, .slice A4 x.f2.f2.length c4, .slice A5 x.f2.f3.length c5] 121 (0, 0))) (fun i _ => x.f2.f1.length - (intOf i).toNat)
     case atStart => exact ⟨0, rfl, Nat.zero_le _, K5.out.to (by simp), BX5.out, BC5.out⟩
     case round =>
      clear e13
      obtain ⟨k, rfl, hk, hK1, hbX, hbC⟩ := hrel
      have LbK := Aside0.mk hK1
      have LbBX := Aside0.mk hbX
      have LbBC := Aside0.mk hbC
      clear hK1 hbX hbC
      by_cases hlk : k < x.f2.f1.length
      ·skip
       obtain ⟨wv, rfl⟩ : ∃ wv : World, wv = wr := ⟨_, rfl⟩
       obtain ⟨ae, ea, ha0, ha1, ha2⟩ := at_T39 R3.out (k : Int) (by omega) (by omega)
       have HK := Aside0.mk (rd_VT_at x.f2.f1 k hlk)
       cases ea
       replace ha0 := (LbK.out.fr.bel.cell (World.block_lt_of_cell? w _ ha0)).trans ha0
       replace ha1 := (LbK.out.fr.bel.cell (World.block_lt_of_cell? w _ ha1)).trans ha1
       replace ha2 := (LbK.out.fr.bel.cell (World.block_lt_of_cell? w _ ha2)).trans ha2
       simp only [Int.toNat_natCast] at ha0 ha1 ha2
       obtain ⟨y, hy⟩ : ∃ y, y = rd_T39 x.f2.f1 (k : Int) := ⟨_, rfl⟩
       rw [← hy] at ha0 ha1 ha2 HK
       clear hy
       have LbV := Aside0.mk (LbK.out.alloc (.cells #[.int .i64 y.f0, .bool y.f1, .int .i64 y.f2] 39))
       have LbVX := Aside0.mk (blk_alloc LbBX.out (.cells #[.int .i64 y.f0, .bool y.f1, .int .i64 y.f2] 39))
       have LbVC := Aside0.mk (blk_alloc LbBC.out (.cells #[.int .i64 y.f0, .bool y.f1, .int .i64 y.f2] 39))
       go_wp2_with fail
       refine (keyV_calls _ _ (w.heap.size + 1) (w.heap.size + 1 + 1) (keyT (l.take j) ++ flagT x.f0 ++ numT x.f1.length ++ x.f1.flatMap numT ++ numT x.f2.f0 ++ numT x.f2.f1.length ++ (x.f2.f1.take k).flatMap valT) y.f0 y.f1 y.f2 _ LbV.out.t LbV.out.f LbV.out.z (S6.out.n2 y (List.mem_of_getElem? HK.out)).1 (S6.out.n2 y (List.mem_of_getElem? HK.out)).2 (by have h4 := flatMap_take_le valT x.f2.f1 k; have h := LT.out; simp only [subT, List.length_append] at h ⊢; omega)).mono ?_
       rintro e w6 ⟨rfl, t1, f1⟩
       have K6 := Aside0.mk (LbV.out.on t1 f1)
       have BX6 := Aside0.mk (f1.blk LbVX.out (by decide) NE.out)
       have BC6 := Aside0.mk (f1.blk LbVC.out (by decide) NC.out)
       clear t1 f1
       clear ha0 ha1 ha2
       go_wp2_with fail
       go_roundw
       case rel => exact ⟨k + 1, by go_num, by omega, K6.out.to (by rw [flatMap_take valT x.f2.f1 k _ HK.out]; simp [fieldT]), BX6.out, BC6.out⟩
       case measure => simp [intOf]; omega
      ·obtain rfl : k = x.f2.f1.length := by omega
       rw [List.take_length] at LbK
       clear hk
       have e14 : wr.cell? ⟨w.heap.size + 1, 0, none⟩ = some (.func (.func 186) #[] #[.pointer (some ⟨w.heap.size, 0, none⟩)]) := (blk_cell LbK.out.f.n 0).trans rfl
       have e15 : wr.cell? ⟨wc.heap.size, 2, none⟩ = some (.slice A4 x.f2.f2.length c4) := (blk_cell LbBC.out 2).trans rfl
       go_wp2_with fail
       refine (keyN_calls _ _ (keyT (l.take j) ++ flagT x.f0 ++ numT x.f1.length ++ x.f1.flatMap numT ++ numT x.f2.f0 ++ numT x.f2.f1.length ++ x.f2.f1.flatMap valT) x.f2.f2.length _ LbK.out.t LbK.out.z ⟨by omega, by omega⟩ (by have h := LT.out; simp only [subT, List.length_append] at h ⊢; omega) (by have h3 := itoa_le x.f2.f2.length ⟨by omega, by omega⟩; have h := LT.out; simp only [subT, List.length_append] at h ⊢; omega)).mono ?_
       rintro e w7 ⟨rfl, t1, f1⟩
       clear e14 e15
       have K7 := Aside0.mk (LbK.out.on t1 f1)
       have BX7 := Aside0.mk (f1.blk LbBX.out (by decide) NE.out)
       have BC7 := Aside0.mk (f1.blk LbBC.out (by decide) NC.out)
       clear t1 f1
       have e16 : w7.cell? ⟨wc.heap.size, 2, none⟩ = some (.slice A4 x.f2.f2.length c4) := (blk_cell BC7.out 2).trans rfl
       go_wp2_with fail
       go_loopw [77] (fun i W => ∃ k : Nat, i = .int .i64 k ∧ k ≤ x.f2.f2.length ∧ KX w.heap.size (w.heap.size) (w.heap.size + 1) (w.heap.size + 1 + 1) w (keyT (l.take j) ++ flagT x.f0 ++ numT x.f1.length ++ x.f1.flatMap numT ++ numT x.f2.f0 ++ numT x.f2.f1.length ++ x.f2.f1.flatMap valT ++ numT x.f2.f2.length ++ (x.f2.f2.take k).flatMap valT) W ∧ W.heap[wo.heap.size]? = some (.cells #[.bool x.f0, .slice A1 x.f1.length c1, .int .i64 x.f2.f0, .slice A3 x.f2.f1.length c3, .slice A4 x.f2.f2.length c4, .slice A5 x.f2.f3.length c5] 123 (0, 0)) ∧ W.heap[wc.heap.size]? = some (.cells #[.int .i64 x.f2.f0, .slice A3 x.f2.f1.length c3, .slice A4 x.f2.f2.length c4, .slice A5 x.f2.f3.length c5] 121 (0, 0))) (fun i _ => x.f2.f2.length - (intOf i).toNat)
       case atStart => exact ⟨0, rfl, Nat.zero_le _, K7.out.to (by simp), BX7.out, BC7.out⟩
       case round =>
        clear e16
        obtain ⟨k, rfl, hk, hK1, hbX, hbC⟩ := hrel
        have LcK := Aside0.mk hK1
        have LcBX := Aside0.mk hbX
        have LcBC := Aside0.mk hbC
        clear hK1 hbX hbC
        by_cases hlk : k < x.f2.f2.length
        ·skip
         obtain ⟨wv, rfl⟩ : ∃ wv : World, wv = wr := ⟨_, rfl⟩
         obtain ⟨ae, ea, ha0, ha1, ha2⟩ := at_T39 R4.out (k : Int) (by omega) (by omega)
         have HK := Aside0.mk (rd_VT_at x.f2.f2 k hlk)
         cases ea
         replace ha0 := (LcK.out.fr.bel.cell (World.block_lt_of_cell? w _ ha0)).trans ha0
         replace ha1 := (LcK.out.fr.bel.cell (World.block_lt_of_cell? w _ ha1)).trans ha1
         replace ha2 := (LcK.out.fr.bel.cell (World.block_lt_of_cell? w _ ha2)).trans ha2
         simp only [Int.toNat_natCast] at ha0 ha1 ha2
         obtain ⟨y, hy⟩ : ∃ y, y = rd_T39 x.f2.f2 (k : Int) := ⟨_, rfl⟩
         rw [← hy] at ha0 ha1 ha2 HK
         clear hy
         have LcV := Aside0.mk (LcK.out.alloc (.cells #[.int .i64 y.f0, .bool y.f1, .int .i64 y.f2] 39))
         have LcVX := Aside0.mk (blk_alloc LcBX.out (.cells #[.int .i64 y.f0, .bool y.f1, .int .i64 y.f2] 39))
         have LcVC := Aside0.mk (blk_alloc LcBC.out (.cells #[.int .i64 y.f0, .bool y.f1, .int .i64 y.f2] 39))
         go_wp2_with fail
         refine (keyV_calls _ _ (w.heap.size + 1) (w.heap.size + 1 + 1) (keyT (l.take j) ++ flagT x.f0 ++ numT x.f1.length ++ x.f1.flatMap numT ++ numT x.f2.f0 ++ numT x.f2.f1.length ++ x.f2.f1.flatMap valT ++ numT x.f2.f2.length ++ (x.f2.f2.take k).flatMap valT) y.f0 y.f1 y.f2 _ LcV.out.t LcV.out.f LcV.out.z (S6.out.n3 y (List.mem_of_getElem? HK.out)).1 (S6.out.n3 y (List.mem_of_getElem? HK.out)).2 (by have h4 := flatMap_take_le valT x.f2.f2 k; have h := LT.out; simp only [subT, List.length_append] at h ⊢; omega)).mono ?_
         rintro e w8 ⟨rfl, t1, f1⟩
         have K8 := Aside0.mk (LcV.out.on t1 f1)
         have BX8 := Aside0.mk (f1.blk LcVX.out (by decide) NE.out)
         have BC8 := Aside0.mk (f1.blk LcVC.out (by decide) NC.out)
         clear t1 f1
         clear ha0 ha1 ha2
         go_wp2_with fail
         go_roundw
         case rel => exact ⟨k + 1, by go_num, by omega, K8.out.to (by rw [flatMap_take valT x.f2.f2 k _ HK.out]; simp [fieldT]), BX8.out, BC8.out⟩
         case measure => simp [intOf]; omega
        ·obtain rfl : k = x.f2.f2.length := by omega
         rw [List.take_length] at LcK
         clear hk
         have e17 : wr.cell? ⟨w.heap.size + 1, 0, none⟩ = some (.func (.func 186) #[] #[.pointer (some ⟨w.heap.size, 0, none⟩)]) := (blk_cell LcK.out.f.n 0).trans rfl
         have e18 : wr.cell? ⟨wc.heap.size, 3, none⟩ = some (.slice A5 x.f2.f3.length c5) := (blk_cell LcBC.out 3).trans rfl
         go_wp2_with fail
         refine (keyN_calls _ _ (keyT (l.take j) ++ flagT x.f0 ++ numT x.f1.length ++ x.f1.flatMap numT ++ numT x.f2.f0 ++ numT x.f2.f1.length ++ x.f2.f1.flatMap valT ++ numT x.f2.f2.length ++ x.f2.f2.flatMap valT) x.f2.f3.length _ LcK.out.t LcK.out.z ⟨by omega, by omega⟩ (by have h := LT.out; simp only [subT, List.length_append] at h ⊢; omega) (by have h3 := itoa_le x.f2.f3.length ⟨by omega, by omega⟩; have h := LT.out; simp only [subT, List.length_append] at h ⊢; omega)).mono ?_
         rintro e w9 ⟨rfl, t1, f1⟩
         clear e17 e18
         have K9 := Aside0.mk (LcK.out.on t1 f1)
         have BX9 := Aside0.mk (f1.blk LcBX.out (by decide) NE.out)
         have BC9 := Aside0.mk (f1.blk LcBC.out (by decide) NC.out)
         clear t1 f1
         have e19 : w9.cell? ⟨wc.heap.size, 3, none⟩ = some (.slice A5 x.f2.f3.length c5) := (blk_cell BC9.out 3).trans rfl
         go_wp2_with fail
         go_loopw [93] (fun i W => ∃ k : Nat, i = .int .i64 k ∧ k ≤ x.f2.f3.length ∧ KX w.heap.size (w.heap.size) (w.heap.size + 1) (w.heap.size + 1 + 1) w (keyT (l.take j) ++ flagT x.f0 ++ numT x.f1.length ++ x.f1.flatMap numT ++ numT x.f2.f0 ++ numT x.f2.f1.length ++ x.f2.f1.flatMap valT ++ numT x.f2.f2.length ++ x.f2.f2.flatMap valT ++ numT x.f2.f3.length ++ (x.f2.f3.take k).flatMap fieldT) W ∧ W.heap[wo.heap.size]? = some (.cells #[.bool x.f0, .slice A1 x.f1.length c1, .int .i64 x.f2.f0, .slice A3 x.f2.f1.length c3, .slice A4 x.f2.f2.length c4, .slice A5 x.f2.f3.length c5] 123 (0, 0)) ∧ W.heap[wc.heap.size]? = some (.cells #[.int .i64 x.f2.f0, .slice A3 x.f2.f1.length c3, .slice A4 x.f2.f2.length c4, .slice A5 x.f2.f3.length c5] 121 (0, 0))) (fun i _ => x.f2.f3.length - (intOf i).toNat)
         case atStart => exact ⟨0, rfl, Nat.zero_le _, K9.out.to (by simp), BX9.out, BC9.out⟩
         case round =>
          clear e19
          obtain ⟨k, rfl, hk, hK1, hbX, hbC⟩ := hrel
          have LdK := Aside0.mk hK1
          have LdBX := Aside0.mk hbX
          have LdBC := Aside0.mk hbC
          clear hK1 hbX hbC
          by_cases hlk : k < x.f2.f3.length
          ·skip
           obtain ⟨wv, rfl⟩ : ∃ wv : World, wv = wr := ⟨_, rfl⟩
           obtain ⟨ae, ea, ha0, ha1, ha2, ha3⟩ := at_T172 R5.out (k : Int) (by omega) (by omega)
           have HK := Aside0.mk (rd_FT_at x.f2.f3 k hlk)
           cases ea
           replace ha0 := (LdK.out.fr.bel.cell (World.block_lt_of_cell? w _ ha0)).trans ha0
           replace ha1 := (LdK.out.fr.bel.cell (World.block_lt_of_cell? w _ ha1)).trans ha1
           replace ha2 := (LdK.out.fr.bel.cell (World.block_lt_of_cell? w _ ha2)).trans ha2
           replace ha3 := (LdK.out.fr.bel.cell (World.block_lt_of_cell? w _ ha3)).trans ha3
           simp only [Int.toNat_natCast] at ha0 ha1 ha2 ha3
           obtain ⟨y, hy⟩ : ∃ y, y = rd_T172 x.f2.f3 (k : Int) := ⟨_, rfl⟩
           rw [← hy] at ha0 ha1 ha2 ha3 HK
           clear hy
           have LdV := Aside0.mk (LdK.out.alloc (.cells #[.int .i64 y.f0.f0, .bool y.f0.f1, .int .i64 y.f0.f2, .bool y.f1] 172))
           have LdVX := Aside0.mk (blk_alloc LdBX.out (.cells #[.int .i64 y.f0.f0, .bool y.f0.f1, .int .i64 y.f0.f2, .bool y.f1] 172))
           have LdVC := Aside0.mk (blk_alloc LdBC.out (.cells #[.int .i64 y.f0.f0, .bool y.f0.f1, .int .i64 y.f0.f2, .bool y.f1] 172))
           have LdVV := Aside0.mk (blk_new wv (.cells #[.int .i64 y.f0.f0, .bool y.f0.f1, .int .i64 y.f0.f2, .bool y.f1] 172))
           have NV : Aside0 (wv.heap.size ≠ w.heap.size) := ⟨LdK.out.lt.symm⟩
           have e20 : (wv.alloc (.cells #[.int .i64 y.f0.f0, .bool y.f0.f1, .int .i64 y.f0.f2, .bool y.f1] 172)).cell? ⟨w.heap.size + 1 + 1, 0, none⟩ = some (.func (.func 188) #[] #[.pointer (some ⟨w.heap.size, 0, none⟩)]) := (blk_cell LdV.out.f.f 0).trans rfl
           go_wp2_with fail
           refine (keyF_calls _ _ (keyT (l.take j) ++ flagT x.f0 ++ numT x.f1.length ++ x.f1.flatMap numT ++ numT x.f2.f0 ++ numT x.f2.f1.length ++ x.f2.f1.flatMap valT ++ numT x.f2.f2.length ++ x.f2.f2.flatMap valT ++ numT x.f2.f3.length ++ (x.f2.f3.take k).flatMap fieldT) y.f1 _ LdV.out.t LdV.out.z (by have h4 := flatMap_take_le fieldT x.f2.f3 k; have h := LT.out; simp only [subT, List.length_append] at h ⊢; omega)).mono ?_
           rintro e w10 ⟨rfl, t1, f1⟩
           clear e20
           have K10 := Aside0.mk (LdV.out.on t1 f1)
           have BX10 := Aside0.mk (f1.blk LdVX.out (by decide) NE.out)
           have BC10 := Aside0.mk (f1.blk LdVC.out (by decide) NC.out)
           have BV10 := Aside0.mk (f1.blk LdVV.out (by decide) NV.out)
           clear t1 f1
           clear ha0 ha1 ha2 ha3
           have e21 : w10.cell? ⟨wv.heap.size, 0, none⟩ = some (.int .i64 y.f0.f0) := (blk_cell BV10.out 0).trans rfl
           have e22 : w10.cell? ⟨wv.heap.size, 1, none⟩ = some (.bool y.f0.f1) := (blk_cell BV10.out 1).trans rfl
           have e23 : w10.cell? ⟨wv.heap.size, 2, none⟩ = some (.int .i64 y.f0.f2) := (blk_cell BV10.out 2).trans rfl
           go_wp2_with fail
           refine (keyV_calls _ _ (w.heap.size + 1) (w.heap.size + 1 + 1) (keyT (l.take j) ++ flagT x.f0 ++ numT x.f1.length ++ x.f1.flatMap numT ++ numT x.f2.f0 ++ numT x.f2.f1.length ++ x.f2.f1.flatMap valT ++ numT x.f2.f2.length ++ x.f2.f2.flatMap valT ++ numT x.f2.f3.length ++ (x.f2.f3.take k).flatMap fieldT ++ flagT y.f1) y.f0.f0 y.f0.f1 y.f0.f2 _ K10.out.t K10.out.f K10.out.z (S6.out.n4 y (List.mem_of_getElem? HK.out)).1 (S6.out.n4 y (List.mem_of_getElem? HK.out)).2 (by have h5 := flagT_le y.f1; have h4 := flatMap_take_le fieldT x.f2.f3 k; have h := LT.out; simp only [subT, List.length_append] at h ⊢; omega)).mono ?_
           rintro e w11 ⟨rfl, t1, f1⟩
           clear e21 e22 e23
           have K11 := Aside0.mk (K10.out.on t1 f1)
           have BX11 := Aside0.mk (f1.blk BX10.out (by decide) NE.out)
           have BC11 := Aside0.mk (f1.blk BC10.out (by decide) NC.out)
           have BV11 := Aside0.mk (f1.blk BV10.out (by decide) NV.out)
           clear t1 f1
           go_wp2_with fail
           go_roundw
           case rel => exact ⟨k + 1, by go_num, by omega, K11.out.to (by rw [flatMap_take fieldT x.f2.f3 k _ HK.out]; simp [fieldT]), BX11.out, BC11.out⟩
           case measure => simp [intOf]; omega
          ·obtain rfl : k = x.f2.f3.length := by omega
           rw [List.take_length] at LdK
           clear hk
           go_wp2_with fail
           go_roundw
           case rel => exact ⟨j + 1, by go_num, by omega, LdK.out.to (by rw [keyT, keyT, flatMap_take subT l j x HX.out]; simp [subT])⟩
           case measure => simp [intOf]; omega
  ·obtain rfl : j = l.length := by omega
   rw [List.take_length] at hK
   obtain ⟨v, hbx, hr⟩ := hK.t.box
   have FR := Aside0.mk hK.fr.bel
   have cv : wr.cell? ⟨w.heap.size, 0, none⟩ = some v := (blk_cell hbx 0).trans rfl
   obtain ⟨Av, cv', ev, lv, rv⟩ := Kd.R_reads hr
   subst ev
   have hconv := Kd.C_string (P := Tryz.prog) (src := 246) (dst := 9) (e := 5) (c := cv') Tryz.underlying246 Tryz.underlying5 Tryz.underlying9 rv
   clear hbx hr rv lv hK hj hlt
   go_wp2_with fail
   go_ret
   exact ⟨_, rfl, str_bytesI _, FR.out⟩
end Go.Proofs.YtohlmkcgempdlaaGreatDoor.Cn
