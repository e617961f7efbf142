/- Parts of the proof of vctlOpens_holds (10 of 22): what it says and shows stands at its declarations. -/
import Derived.Test.YtohlmkcgempdlaaGreatDoorZO9
import Derived.LoopTactic
import Derived.Laws.EntriesVeiled
namespace Go.Proofs.YtohlmkcgempdlaaGreatDoor.Cn
set_option linter.unusedSimpArgs false
set_option maxRecDepth 100000
set_option linter.unusedVariables false
open Go.RowKit Go.Proofs.YtohlmkcgempdlaaGreatDoorW.PrintWords Go.Proofs.YtohlmkcgempdlaaGreatDoorW.PrintLast Go.Proofs.YtohlmkcgempdlaaGreatDoor.QD
theorem rd_ST_at (l : List S123) (j : Nat) (h : j < l.length) : l[j]? = some (Ac2 l (j : Int)) := by simp [Ac2, List.getD_eq_getElem?_getD, List.getElem?_eq_getElem h]
theorem By1 (l : List S39) (j : Nat) (h : j < l.length) : l[j]? = some (Ac7 l (j : Int)) := by simp [Ac7, List.getD_eq_getElem?_getD, List.getElem?_eq_getElem h]
theorem rd_FT_at (l : List S172) (j : Nat) (h : j < l.length) : l[j]? = some (Am1 l (j : Int)) := by simp [Am1, List.getD_eq_getElem?_getD, List.getElem?_eq_getElem h]
theorem Cf6 (l : List Int) (j : Nat) (h : j < l.length) : l[j]? = some (rd l (j : Int)) := by simp [rd, List.getD_eq_getElem?_getD, List.getElem?_eq_getElem h]
theorem Ca9 (bs : List UInt8) : (strOfNums (Af4 bs)).data.toList = bs := by
 unfold strOfNums Af4
 simp [List.map_map, Function.comp_def]
theorem KX.start (w : World) (htab : Lib.TabBelow Tryz.prog w.heap.size w "internal/strconv.uint64pow10" .u64 Lib.pow10Tab) : KX w.heap.size (w.heap.size) (w.heap.size + 1) (w.heap.size + 1 + 1) w []
  (((w.alloc (.cells #[.slice none 0 0] 246)).alloc (.cells #[.func (.func 186) #[] #[.pointer (some ⟨w.heap.size, 0, none⟩)]] 106)).alloc (.cells #[.func (.func 188) #[] #[.pointer (some ⟨w.heap.size, 0, none⟩)]] 248)) := by
 have f1 : Fr8 w.heap.size w.heap.size w (w.alloc (.cells #[.slice none 0 0] 246)) := Fr8.alloc (Nat.le_refl _) _
 have f2 := f1.trans (Fr8.alloc (g := w.heap.size) (w := w.alloc (.cells #[.slice none 0 0] 246)) (by simp) (.cells #[.func (.func 186) #[] #[.pointer (some ⟨w.heap.size, 0, none⟩)]] 106))
 have f3 := f2.trans (Fr8.alloc (g := w.heap.size) (w := (w.alloc (.cells #[.slice none 0 0] 246)).alloc (.cells #[.func (.func 186) #[] #[.pointer (some ⟨w.heap.size, 0, none⟩)]] 106)) (by simp; omega) (.cells #[.func (.func 188) #[] #[.pointer (some ⟨w.heap.size, 0, none⟩)]] 248))
 refine ⟨⟨⟨.slice none 0 0, Aa5 (Aa5 (Aa6 w _) _) _, Kd.Aj9 _ _ _ _ _⟩, Nat.le_refl _, htab.on f3.bel⟩, ⟨?_, ?_, by omega, by omega⟩, f3, by simp; omega⟩
 ·exact Aa5 (by have := Aa6 (w.alloc (.cells #[.slice none 0 0] 246)) (.cells #[.func (.func 186) #[] #[.pointer (some ⟨w.heap.size, 0, none⟩)]] 106); simpa using this) _
 ·have := Aa6 ((w.alloc (.cells #[.slice none 0 0] 246)).alloc (.cells #[.func (.func 186) #[] #[.pointer (some ⟨w.heap.size, 0, none⟩)]] 106)) (.cells #[.func (.func 188) #[] #[.pointer (some ⟨w.heap.size, 0, none⟩)]] 248)
  simpa using this
set_option maxHeartbeats 8000000 in
theorem Ci2 (A : Option Addr) (c : Nat) (l : List S123) (w : World) (hr : Kd.C k123 w A l.length l) (h64 : ∀ x ∈ l, S64 x) (hl : (keyT l).length + 200 ≤ 140737488355328)
  (htab : Lib.TabBelow Tryz.prog w.heap.size w "internal/strconv.uint64pow10" .u64 Lib.pow10Tab) :
  Calls Tryz.prog 177 #[.slice A l.length c] w fun e w' => ∃ s : ByteArray, e = .returned (.string s) ∧ s.data.toList = keyT l ∧ Below w.heap.size w w' := by
 have hm := hr.2.1
 have TS := KX.start w htab
 have HR := zA hr
 have H64 := zA h64
 have HL := zA hl
 clear hr h64 htab hl
 go_enter Tryz.func177, Tryz.ntmps177
 go_wp2_with fail
 go_loopw [23] (fun i W => ∃ j : Nat, i = .int .i64 j ∧ j ≤ l.length ∧ KX w.heap.size (w.heap.size) (w.heap.size + 1) (w.heap.size + 1 + 1) w (keyT (l.take j)) W) (fun i _ => l.length - (intOf i).toNat)
 case atStart => exact ⟨0, rfl, Nat.zero_le _, TS⟩
 case round =>
  clear TS
  obtain ⟨j, rfl, hj, hK⟩ := hrel
  by_cases hlt : j < l.length
  ·obtain ⟨wo, rfl⟩ : ∃ wo : World, wo = wr := ⟨_, rfl⟩
   obtain ⟨ad, A1, c1, A3, c3, A4, c4, A5, c5, rfl, d0, d1, d2, d3, d4, d5, m1, r1, m3, r3, m4, r4, m5, r5⟩ := An8 HR.out j (by omega) (by omega)
   have HX := zA (rd_ST_at l j hlt)
   obtain ⟨x, hx⟩ : ∃ x, x = Ac2 l (j : Int) := ⟨_, rfl⟩
   rw [← hx] at d0 d1 d2 d3 d4 d5 m1 r1 m3 r3 m4 r4 m5 r5 HX
   clear hx
   have S6 := zA (H64.out x (List.mem_of_getElem? HX.out))
   have LT : Aa2 ((keyT (l.take j)).length + (subT x).length + 200 ≤ 140737488355328) := ⟨by have h1 := Az8 subT l j x HX.out; have h2 := HL.out; simp only [keyT] at *; omega⟩
   replace d0 := hK.fr.bel.kp d0
   replace d1 := hK.fr.bel.kp d1
   replace d2 := hK.fr.bel.kp d2
   replace d3 := hK.fr.bel.kp d3
   replace d4 := hK.fr.bel.kp d4
   replace d5 := hK.fr.bel.kp d5
   simp only [Int.toNat_natCast] at d0 d1 d2 d3 d4 d5
   have R1 := zA r1
   have R3 := zA r3
   have R4 := zA r4
   have R5 := zA r5
   have n1 := r1.2.1
   have n3 := r3.2.1
   have n4 := r4.2.1
   have n5 := r5.2.1
   clear r1 r3 r4 r5 m1 m3 m4 m5
   have K0 := zA (hK.alloc (.cells #[.bool x.f0, .slice A1 x.f1.length c1, .int .i64 x.f2.f0, .slice A3 x.f2.f1.length c3, .slice A4 x.f2.f2.length c4, .slice A5 x.f2.f3.length c5] 123))
   have BX0 := zA (Aa6 wo (.cells #[.bool x.f0, .slice A1 x.f1.length c1, .int .i64 x.f2.f0, .slice A3 x.f2.f1.length c3, .slice A4 x.f2.f2.length c4, .slice A5 x.f2.f3.length c5] 123))
   have NE : Aa2 (wo.heap.size ≠ w.heap.size) := ⟨hK.lt.symm⟩
   have e1 := bc_ K0.out.f.f 0
   clear hj
   go_wp2_with fail
   refine (Ax6 _ _ (keyT (l.take j)) x.f0 _ K0.out.t K0.out.z (by have h := LT.out; simp only [subT, List.length_append] at h ⊢; omega)).mono ?_
   rintro e w1 ⟨rfl, t1, f1⟩
   clear e1
   have K1 := zA (K0.out.on t1 f1)
   have BX1 := zA (f1.blk BX0.out (by decide) NE.out)
   clear t1 f1
   have e2 := bc_ K1.out.f.n 0
   have e3 := bc_ BX1.out 1
   go_wp2_with fail
   refine (Ai4 _ _ (keyT (l.take j) ++ Aj6 x.f0) x.f1.length _ K1.out.t K1.out.z ⟨by omega, by omega⟩ (by have h := LT.out; simp only [subT, List.length_append] at h ⊢; omega) (by have h3 := Ap7 x.f1.length ⟨by omega, by omega⟩; have h := LT.out; simp only [subT, List.length_append] at h ⊢; omega)).mono ?_
   rintro e w2 ⟨rfl, t1, f1⟩
   clear e2 e3
   have K2 := zA (K1.out.on t1 f1)
   have BX2 := zA (f1.blk BX1.out (by decide) NE.out)
   clear t1 f1
   have e4 := bc_ BX2.out 1
   go_wp2_with fail
   go_loopw [39] (fun i W => ∃ k : Nat, i = .int .i64 k ∧ k ≤ x.f1.length ∧ KX w.heap.size (w.heap.size) (w.heap.size + 1) (w.heap.size + 1 + 1) w (keyT (l.take j) ++ Aj6 x.f0 ++ numT x.f1.length ++ (x.f1.take k).flatMap numT) W ∧ W.heap[wo.heap.size]? = some (.cells #[.bool x.f0, .slice A1 x.f1.length c1, .int .i64 x.f2.f0, .slice A3 x.f2.f1.length c3, .slice A4 x.f2.f2.length c4, .slice A5 x.f2.f3.length c5] 123 (0, 0))) (fun i _ => x.f1.length - (intOf i).toNat)
   case atStart => exact ⟨0, rfl, Nat.zero_le _, K2.out.to (by simp), BX2.out⟩
   case round =>
    clear e4
    obtain ⟨k, rfl, hk, hK1, hbX⟩ := hrel
    have LaK := zA hK1
    have LaBX := zA hbX
    clear hK1 hbX
    by_cases hlk : k < x.f1.length
    ·skip
     obtain ⟨ae, ea, ha⟩ := Kd.Au2 R1.out (k : Int) (by omega) (by omega)
     have HK := zA (Cf6 x.f1 k hlk)
     cases ea
     replace ha := LaK.out.fr.bel.kp ha
     simp only [Int.toNat_natCast] at ha
     obtain ⟨y, hy⟩ : ∃ y, y = rd x.f1 (k : Int) := ⟨_, rfl⟩
     rw [← hy] at ha HK
     clear hy
     have e5 := bc_ LaK.out.f.n 0
     go_wp2_with fail
     refine (Ai4 _ _ (keyT (l.take j) ++ Aj6 x.f0 ++ numT x.f1.length ++ (x.f1.take k).flatMap numT) y _ LaK.out.t LaK.out.z (S6.out.n1 y (List.mem_of_getElem? HK.out)) (by have h4 := Ae8 numT x.f1 k; have h := LT.out; simp only [subT, List.length_append] at h ⊢; omega) (by have h3 := Ap7 y (S6.out.n1 y (List.mem_of_getElem? HK.out)); have h4 := Ae8 numT x.f1 k; have h := LT.out; simp only [subT, List.length_append] at h ⊢; omega)).mono ?_
     rintro e w3 ⟨rfl, t1, f1⟩
     clear e5
     have K3 := zA (LaK.out.on t1 f1)
     have BX3 := zA (f1.blk LaBX.out (by decide) NE.out)
     clear t1 f1 ha
     go_wp2_with fail
     go_roundw
     case rel => exact ⟨k + 1, by go_num, by omega, K3.out.to (by rw [Ai6 numT x.f1 k _ HK.out]; simp [Al1]), BX3.out⟩
     case measure => simp [intOf]; omega
    ·obtain rfl : k = x.f1.length := by omega
     rw [List.take_length] at LaK
     clear hk
     have e6 := bc_ LaBX.out 2
     have e7 := bc_ LaBX.out 3
     have e8 := bc_ LaBX.out 4
     have e9 := bc_ LaBX.out 5
     obtain ⟨wc, rfl⟩ : ∃ wc : World, wc = wr := ⟨_, rfl⟩
     have KC := zA (LaK.out.alloc (.cells #[.int .i64 x.f2.f0, .slice A3 x.f2.f1.length c3, .slice A4 x.f2.f2.length c4, .slice A5 x.f2.f3.length c5] 121))
     have BXC := zA (Aa5 LaBX.out (.cells #[.int .i64 x.f2.f0, .slice A3 x.f2.f1.length c3, .slice A4 x.f2.f2.length c4, .slice A5 x.f2.f3.length c5] 121))
     have BCC := zA (Aa6 wc (.cells #[.int .i64 x.f2.f0, .slice A3 x.f2.f1.length c3, .slice A4 x.f2.f2.length c4, .slice A5 x.f2.f3.length c5] 121))
     have NC : Aa2 (wc.heap.size ≠ w.heap.size) := ⟨LaK.out.lt.symm⟩
     have e10 := bc_ KC.out.f.n 0
     go_wp2_with fail
     refine (Ai4 _ _ (keyT (l.take j) ++ Aj6 x.f0 ++ numT x.f1.length ++ x.f1.flatMap numT) x.f2.f0 _ KC.out.t KC.out.z S6.out.k (by have h := LT.out; simp only [subT, List.length_append] at h ⊢; omega) (by have h3 := Ap7 x.f2.f0 S6.out.k; have h := LT.out; simp only [subT, List.length_append] at h ⊢; omega)).mono ?_
     rintro e w4 ⟨rfl, t1, f1⟩
     clear e6 e7 e8 e9 e10
     have K4 := zA (KC.out.on t1 f1)
     have BX4 := zA (f1.blk BXC.out (by decide) NE.out)
     have BC4 := zA (f1.blk BCC.out (by decide) NC.out)
     clear t1 f1
     have e11 := bc_ K4.out.f.n 0
     have e12 := bc_ BC4.out 1
     go_wp2_with fail
     refine (Ai4 _ _ (keyT (l.take j) ++ Aj6 x.f0 ++ numT x.f1.length ++ x.f1.flatMap numT ++ numT x.f2.f0) x.f2.f1.length _ K4.out.t K4.out.z ⟨by omega, by omega⟩ (by have h := LT.out; simp only [subT, List.length_append] at h ⊢; omega) (by have h3 := Ap7 x.f2.f1.length ⟨by omega, by omega⟩; have h := LT.out; simp only [subT, List.length_append] at h ⊢; omega)).mono ?_
     rintro e w5 ⟨rfl, t1, f1⟩
     clear e11 e12
     have K5 := zA (K4.out.on t1 f1)
     have BX5 := zA (f1.blk BX4.out (by decide) NE.out)
     have BC5 := zA (f1.blk BC4.out (by decide) NC.out)
     clear t1 f1
     have e13 := bc_ BC5.out 1
     go_wp2_with fail
     go_loopw [61] (fun i W => ∃ k : Nat, i = .int .i64 k ∧ k ≤ x.f2.f1.length ∧ KX w.heap.size (w.heap.size) (w.heap.size + 1) (w.heap.size + 1 + 1) w (keyT (l.take j) ++ Aj6 x.f0 ++ numT x.f1.length ++ x.f1.flatMap numT ++ numT x.f2.f0 ++ numT x.f2.f1.length ++ (x.f2.f1.take k).flatMap valT) W ∧ W.heap[wo.heap.size]? = some (.cells #[.bool x.f0, .slice A1 x.f1.length c1, .int .i64 x.f2.f0, .slice A3 x.f2.f1.length c3, .slice A4 x.f2.f2.length c4, .slice A5 x.f2.f3.length c5] 123 (0, 0)) ∧ W.heap[wc.heap.size]? = some (.cells #[.int .i64 x.f2.f0, .slice A3 x.f2.f1.length c3, .slice A4 x.f2.f2.length c4, .slice A5 x.f2.f3.length c5] 121 (0, 0))) (fun i _ => x.f2.f1.length - (intOf i).toNat)
     case atStart => exact ⟨0, rfl, Nat.zero_le _, K5.out.to (by simp), BX5.out, BC5.out⟩
     case round =>
      clear e13
      obtain ⟨k, rfl, hk, hK1, hbX, hbC⟩ := hrel
      have LbK := zA hK1
      have LbBX := zA hbX
      have LbBC := zA hbC
      clear hK1 hbX hbC
      by_cases hlk : k < x.f2.f1.length
      ·skip
       obtain ⟨wv, rfl⟩ : ∃ wv : World, wv = wr := ⟨_, rfl⟩
       obtain ⟨ae, ea, ha0, ha1, ha2⟩ := Aq4 R3.out (k : Int) (by omega) (by omega)
       have HK := zA (By1 x.f2.f1 k hlk)
       cases ea
       replace ha0 := LbK.out.fr.bel.kp ha0
       replace ha1 := LbK.out.fr.bel.kp ha1
       replace ha2 := LbK.out.fr.bel.kp ha2
       simp only [Int.toNat_natCast] at ha0 ha1 ha2
       obtain ⟨y, hy⟩ : ∃ y, y = Ac7 x.f2.f1 (k : Int) := ⟨_, rfl⟩
       rw [← hy] at ha0 ha1 ha2 HK
       clear hy
       have LbV := zA (LbK.out.alloc (.cells #[.int .i64 y.f0, .bool y.f1, .int .i64 y.f2] 39))
       have LbVX := zA (Aa5 LbBX.out (.cells #[.int .i64 y.f0, .bool y.f1, .int .i64 y.f2] 39))
       have LbVC := zA (Aa5 LbBC.out (.cells #[.int .i64 y.f0, .bool y.f1, .int .i64 y.f2] 39))
       go_wp2_with fail
       refine (Ax5 _ _ (w.heap.size + 1) (w.heap.size + 1 + 1) (keyT (l.take j) ++ Aj6 x.f0 ++ numT x.f1.length ++ x.f1.flatMap numT ++ numT x.f2.f0 ++ numT x.f2.f1.length ++ (x.f2.f1.take k).flatMap valT) y.f0 y.f1 y.f2 _ LbV.out.t LbV.out.f LbV.out.z (S6.out.n2 y (List.mem_of_getElem? HK.out)).1 (S6.out.n2 y (List.mem_of_getElem? HK.out)).2 (by have h4 := Ae8 valT x.f2.f1 k; have h := LT.out; simp only [subT, List.length_append] at h ⊢; omega)).mono ?_
       rintro e w6 ⟨rfl, t1, f1⟩
       have K6 := zA (LbV.out.on t1 f1)
       have BX6 := zA (f1.blk LbVX.out (by decide) NE.out)
       have BC6 := zA (f1.blk LbVC.out (by decide) NC.out)
       clear t1 f1 ha0 ha1 ha2
       go_wp2_with fail
       go_roundw
       case rel => exact ⟨k + 1, by go_num, by omega, K6.out.to (by rw [Ai6 valT x.f2.f1 k _ HK.out]; simp [Al1]), BX6.out, BC6.out⟩
       case measure => simp [intOf]; omega
      ·obtain rfl : k = x.f2.f1.length := by omega
       rw [List.take_length] at LbK
       clear hk
       have e14 := bc_ LbK.out.f.n 0
       have e15 := bc_ LbBC.out 2
       go_wp2_with fail
       refine (Ai4 _ _ (keyT (l.take j) ++ Aj6 x.f0 ++ numT x.f1.length ++ x.f1.flatMap numT ++ numT x.f2.f0 ++ numT x.f2.f1.length ++ x.f2.f1.flatMap valT) x.f2.f2.length _ LbK.out.t LbK.out.z ⟨by omega, by omega⟩ (by have h := LT.out; simp only [subT, List.length_append] at h ⊢; omega) (by have h3 := Ap7 x.f2.f2.length ⟨by omega, by omega⟩; have h := LT.out; simp only [subT, List.length_append] at h ⊢; omega)).mono ?_
       rintro e w7 ⟨rfl, t1, f1⟩
       clear e14 e15
       have K7 := zA (LbK.out.on t1 f1)
       have BX7 := zA (f1.blk LbBX.out (by decide) NE.out)
       have BC7 := zA (f1.blk LbBC.out (by decide) NC.out)
       clear t1 f1
       have e16 := bc_ BC7.out 2
       go_wp2_with fail
       go_loopw [77] (fun i W => ∃ k : Nat, i = .int .i64 k ∧ k ≤ x.f2.f2.length ∧ KX w.heap.size (w.heap.size) (w.heap.size + 1) (w.heap.size + 1 + 1) w (keyT (l.take j) ++ Aj6 x.f0 ++ numT x.f1.length ++ x.f1.flatMap numT ++ numT x.f2.f0 ++ numT x.f2.f1.length ++ x.f2.f1.flatMap valT ++ numT x.f2.f2.length ++ (x.f2.f2.take k).flatMap valT) W ∧ W.heap[wo.heap.size]? = some (.cells #[.bool x.f0, .slice A1 x.f1.length c1, .int .i64 x.f2.f0, .slice A3 x.f2.f1.length c3, .slice A4 x.f2.f2.length c4, .slice A5 x.f2.f3.length c5] 123 (0, 0)) ∧ W.heap[wc.heap.size]? = some (.cells #[.int .i64 x.f2.f0, .slice A3 x.f2.f1.length c3, .slice A4 x.f2.f2.length c4, .slice A5 x.f2.f3.length c5] 121 (0, 0))) (fun i _ => x.f2.f2.length - (intOf i).toNat)
       case atStart => exact ⟨0, rfl, Nat.zero_le _, K7.out.to (by simp), BX7.out, BC7.out⟩
       case round =>
        clear e16
        obtain ⟨k, rfl, hk, hK1, hbX, hbC⟩ := hrel
        have LcK := zA hK1
        have LcBX := zA hbX
        have LcBC := zA hbC
        clear hK1 hbX hbC
        by_cases hlk : k < x.f2.f2.length
        ·skip
         obtain ⟨wv, rfl⟩ : ∃ wv : World, wv = wr := ⟨_, rfl⟩
         obtain ⟨ae, ea, ha0, ha1, ha2⟩ := Aq4 R4.out (k : Int) (by omega) (by omega)
         have HK := zA (By1 x.f2.f2 k hlk)
         cases ea
         replace ha0 := LcK.out.fr.bel.kp ha0
         replace ha1 := LcK.out.fr.bel.kp ha1
         replace ha2 := LcK.out.fr.bel.kp ha2
         simp only [Int.toNat_natCast] at ha0 ha1 ha2
         obtain ⟨y, hy⟩ : ∃ y, y = Ac7 x.f2.f2 (k : Int) := ⟨_, rfl⟩
         rw [← hy] at ha0 ha1 ha2 HK
         clear hy
         have LcV := zA (LcK.out.alloc (.cells #[.int .i64 y.f0, .bool y.f1, .int .i64 y.f2] 39))
         have LcVX := zA (Aa5 LcBX.out (.cells #[.int .i64 y.f0, .bool y.f1, .int .i64 y.f2] 39))
         have LcVC := zA (Aa5 LcBC.out (.cells #[.int .i64 y.f0, .bool y.f1, .int .i64 y.f2] 39))
         go_wp2_with fail
         refine (Ax5 _ _ (w.heap.size + 1) (w.heap.size + 1 + 1) (keyT (l.take j) ++ Aj6 x.f0 ++ numT x.f1.length ++ x.f1.flatMap numT ++ numT x.f2.f0 ++ numT x.f2.f1.length ++ x.f2.f1.flatMap valT ++ numT x.f2.f2.length ++ (x.f2.f2.take k).flatMap valT) y.f0 y.f1 y.f2 _ LcV.out.t LcV.out.f LcV.out.z (S6.out.n3 y (List.mem_of_getElem? HK.out)).1 (S6.out.n3 y (List.mem_of_getElem? HK.out)).2 (by have h4 := Ae8 valT x.f2.f2 k; have h := LT.out; simp only [subT, List.length_append] at h ⊢; omega)).mono ?_
         rintro e w8 ⟨rfl, t1, f1⟩
         have K8 := zA (LcV.out.on t1 f1)
         have BX8 := zA (f1.blk LcVX.out (by decide) NE.out)
         have BC8 := zA (f1.blk LcVC.out (by decide) NC.out)
         clear t1 f1 ha0 ha1 ha2
         go_wp2_with fail
         go_roundw
         case rel => exact ⟨k + 1, by go_num, by omega, K8.out.to (by rw [Ai6 valT x.f2.f2 k _ HK.out]; simp [Al1]), BX8.out, BC8.out⟩
         case measure => simp [intOf]; omega
        ·obtain rfl : k = x.f2.f2.length := by omega
         rw [List.take_length] at LcK
         clear hk
         have e17 := bc_ LcK.out.f.n 0
         have e18 := bc_ LcBC.out 3
         go_wp2_with fail
         refine (Ai4 _ _ (keyT (l.take j) ++ Aj6 x.f0 ++ numT x.f1.length ++ x.f1.flatMap numT ++ numT x.f2.f0 ++ numT x.f2.f1.length ++ x.f2.f1.flatMap valT ++ numT x.f2.f2.length ++ x.f2.f2.flatMap valT) x.f2.f3.length _ LcK.out.t LcK.out.z ⟨by omega, by omega⟩ (by have h := LT.out; simp only [subT, List.length_append] at h ⊢; omega) (by have h3 := Ap7 x.f2.f3.length ⟨by omega, by omega⟩; have h := LT.out; simp only [subT, List.length_append] at h ⊢; omega)).mono ?_
         rintro e w9 ⟨rfl, t1, f1⟩
         clear e17 e18
         have K9 := zA (LcK.out.on t1 f1)
         have BX9 := zA (f1.blk LcBX.out (by decide) NE.out)
         have BC9 := zA (f1.blk LcBC.out (by decide) NC.out)
         clear t1 f1
         have e19 := bc_ BC9.out 3
         go_wp2_with fail
         go_loopw [93] (fun i W => ∃ k : Nat, i = .int .i64 k ∧ k ≤ x.f2.f3.length ∧ KX w.heap.size (w.heap.size) (w.heap.size + 1) (w.heap.size + 1 + 1) w (keyT (l.take j) ++ Aj6 x.f0 ++ numT x.f1.length ++ x.f1.flatMap numT ++ numT x.f2.f0 ++ numT x.f2.f1.length ++ x.f2.f1.flatMap valT ++ numT x.f2.f2.length ++ x.f2.f2.flatMap valT ++ numT x.f2.f3.length ++ (x.f2.f3.take k).flatMap Al1) W ∧ W.heap[wo.heap.size]? = some (.cells #[.bool x.f0, .slice A1 x.f1.length c1, .int .i64 x.f2.f0, .slice A3 x.f2.f1.length c3, .slice A4 x.f2.f2.length c4, .slice A5 x.f2.f3.length c5] 123 (0, 0)) ∧ W.heap[wc.heap.size]? = some (.cells #[.int .i64 x.f2.f0, .slice A3 x.f2.f1.length c3, .slice A4 x.f2.f2.length c4, .slice A5 x.f2.f3.length c5] 121 (0, 0))) (fun i _ => x.f2.f3.length - (intOf i).toNat)
         case atStart => exact ⟨0, rfl, Nat.zero_le _, K9.out.to (by simp), BX9.out, BC9.out⟩
         case round =>
          clear e19
          obtain ⟨k, rfl, hk, hK1, hbX, hbC⟩ := hrel
          have LdK := zA hK1
          have LdBX := zA hbX
          have LdBC := zA hbC
          clear hK1 hbX hbC
          by_cases hlk : k < x.f2.f3.length
          ·skip
           obtain ⟨wv, rfl⟩ : ∃ wv : World, wv = wr := ⟨_, rfl⟩
           obtain ⟨ae, ea, ha0, ha1, ha2, ha3⟩ := Bw8 R5.out (k : Int) (by omega) (by omega)
           have HK := zA (rd_FT_at x.f2.f3 k hlk)
           cases ea
           replace ha0 := LdK.out.fr.bel.kp ha0
           replace ha1 := LdK.out.fr.bel.kp ha1
           replace ha2 := LdK.out.fr.bel.kp ha2
           replace ha3 := LdK.out.fr.bel.kp ha3
           simp only [Int.toNat_natCast] at ha0 ha1 ha2 ha3
           obtain ⟨y, hy⟩ : ∃ y, y = Am1 x.f2.f3 (k : Int) := ⟨_, rfl⟩
           rw [← hy] at ha0 ha1 ha2 ha3 HK
           clear hy
           have LdV := zA (LdK.out.alloc (.cells #[.int .i64 y.f0.f0, .bool y.f0.f1, .int .i64 y.f0.f2, .bool y.f1] 172))
           have LdVX := zA (Aa5 LdBX.out (.cells #[.int .i64 y.f0.f0, .bool y.f0.f1, .int .i64 y.f0.f2, .bool y.f1] 172))
           have LdVC := zA (Aa5 LdBC.out (.cells #[.int .i64 y.f0.f0, .bool y.f0.f1, .int .i64 y.f0.f2, .bool y.f1] 172))
           have LdVV := zA (Aa6 wv (.cells #[.int .i64 y.f0.f0, .bool y.f0.f1, .int .i64 y.f0.f2, .bool y.f1] 172))
           have NV : Aa2 (wv.heap.size ≠ w.heap.size) := ⟨LdK.out.lt.symm⟩
           have e20 := bc_ LdV.out.f.f 0
           go_wp2_with fail
           refine (Ax6 _ _ (keyT (l.take j) ++ Aj6 x.f0 ++ numT x.f1.length ++ x.f1.flatMap numT ++ numT x.f2.f0 ++ numT x.f2.f1.length ++ x.f2.f1.flatMap valT ++ numT x.f2.f2.length ++ x.f2.f2.flatMap valT ++ numT x.f2.f3.length ++ (x.f2.f3.take k).flatMap Al1) y.f1 _ LdV.out.t LdV.out.z (by have h4 := Ae8 Al1 x.f2.f3 k; have h := LT.out; simp only [subT, List.length_append] at h ⊢; omega)).mono ?_
           rintro e w10 ⟨rfl, t1, f1⟩
           clear e20
           have K10 := zA (LdV.out.on t1 f1)
           have BX10 := zA (f1.blk LdVX.out (by decide) NE.out)
           have BC10 := zA (f1.blk LdVC.out (by decide) NC.out)
           have BV10 := zA (f1.blk LdVV.out (by decide) NV.out)
           clear t1 f1 ha0 ha1 ha2 ha3
           have e21 := bc_ BV10.out 0
           have e22 := bc_ BV10.out 1
           have e23 := bc_ BV10.out 2
           go_wp2_with fail
           refine (Ax5 _ _ (w.heap.size + 1) (w.heap.size + 1 + 1) (keyT (l.take j) ++ Aj6 x.f0 ++ numT x.f1.length ++ x.f1.flatMap numT ++ numT x.f2.f0 ++ numT x.f2.f1.length ++ x.f2.f1.flatMap valT ++ numT x.f2.f2.length ++ x.f2.f2.flatMap valT ++ numT x.f2.f3.length ++ (x.f2.f3.take k).flatMap Al1 ++ Aj6 y.f1) y.f0.f0 y.f0.f1 y.f0.f2 _ K10.out.t K10.out.f K10.out.z (S6.out.n4 y (List.mem_of_getElem? HK.out)).1 (S6.out.n4 y (List.mem_of_getElem? HK.out)).2 (by have h5 := Aw2 y.f1; have h4 := Ae8 Al1 x.f2.f3 k; have h := LT.out; simp only [subT, List.length_append] at h ⊢; omega)).mono ?_
           rintro e w11 ⟨rfl, t1, f1⟩
           clear e21 e22 e23
           have K11 := zA (K10.out.on t1 f1)
           have BX11 := zA (f1.blk BX10.out (by decide) NE.out)
           have BC11 := zA (f1.blk BC10.out (by decide) NC.out)
           have BV11 := zA (f1.blk BV10.out (by decide) NV.out)
           clear t1 f1
           go_wp2_with fail
           go_roundw
           case rel => exact ⟨k + 1, by go_num, by omega, K11.out.to (by rw [Ai6 Al1 x.f2.f3 k _ HK.out]; simp [Al1]), BX11.out, BC11.out⟩
           case measure => simp [intOf]; omega
          ·obtain rfl : k = x.f2.f3.length := by omega
           rw [List.take_length] at LdK
           clear hk
           go_wp2_with fail
           go_roundw
           case rel => exact ⟨j + 1, by go_num, by omega, LdK.out.to (by rw [keyT, keyT, Ai6 subT l j x HX.out]; simp [subT])⟩
           case measure => simp [intOf]; omega
  ·obtain rfl : j = l.length := by omega
   rw [List.take_length] at hK
   obtain ⟨v, hbx, hr⟩ := hK.t.box
   have FR := zA hK.fr.bel
   have cv := bc_ hbx 0
   obtain ⟨Av, cv', ev, lv, rv⟩ := Kd.Ae4 hr
   subst ev
   have hconv := Kd.C_string (P := Tryz.prog) (src := 246) (dst := 9) (e := 5) (c := cv') Tryz.underlying246 Tryz.underlying5 Tryz.underlying9 rv
   clear hbx hr rv lv hK hj hlt
   go_wp2_with fail
   go_ret
   exact ⟨_, rfl, Ca9 _, FR.out⟩
end Go.Proofs.YtohlmkcgempdlaaGreatDoor.Cn
