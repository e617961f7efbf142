/- Parts of the proof of subDeep_holds (15 of 16): what it says and shows stands at its declarations. -/
import Derived.Test.YtfgglniigeagdaaDoorZSp14
namespace Go.Proofs.YtfgglniigeagdaaDoor.Cn
set_option linter.unusedSimpArgs false
set_option linter.unusedVariables false
open Go.RowKit Go.Maps Go.Proofs.YtfgglniigeagdaaDoorW.PrintWords Go.Proofs.YtfgglniigeagdaaDoorW.PrintLast Go.Proofs.YtfgglniigeagdaaDoorW.PrintMore Go.Proofs.YtfgglniigeagdaaDoor.QD
set_option maxRecDepth 100000 in
set_option maxHeartbeats 8000000 in
theorem scomp3_calls (hb_ : Nat) (l : List S62) (a : S51) (P1 : Option Addr) (p1 : Nat) (R1 : Option Addr) (r1 : Nat) (F1 : Option Addr) (f1 : Nat) (b : S51) (P2 : Option Addr) (p2 : Nat) (R2 : Option Addr) (r2 : Nat) (F2 : Option Addr) (f2 : Nat) (w : World) (hl : Ctx l hb_ w) (hll : (flat l).length ≤ 1048576) (hc : Clo l) (ha : CIn2 w a P1 R1 F1) (hb : CIn2 w b P2 R2 F2) (k3 : a.f0 = 3) (k3' : b.f0 = 3) :
    Calls Tryd.prog 63 #[.pointer (some ⟨hb_, 0, none⟩), .agg #[.int .i64 a.f0, .slice P1 a.f1.length p1, .slice R1 a.f2.length r1, .slice F1 a.f3.length f1], .agg #[.int .i64 b.f0, .slice P2 b.f1.length p2, .slice R2 b.f2.length r2, .slice F2 b.f3.length f2]] w fun e w' => e = .returned (.bool (compM l a b)) ∧ Below w.heap.size w w' := by
  have ba : Below w.heap.size w ((w.alloc (.cells #[.int .i64 a.f0, .slice P1 a.f1.length p1, .slice R1 a.f2.length r1, .slice F1 a.f3.length f1] 51)).alloc (.cells #[.int .i64 b.f0, .slice P2 b.f1.length p2, .slice R2 b.f2.length r2, .slice F2 b.f3.length f2] 51)) := ((Below.refl _ _).alloc (Nat.le_refl _) _).alloc (by simp) _
  have HL := Aside0.mk hl
  have HC := Aside0.mk hc
  have HLL := Aside0.mk hll
  have HA := Aside0.mk ha
  have HB := Aside0.mk hb
  have q0 : ((w.alloc (.cells #[.int .i64 a.f0, .slice P1 a.f1.length p1, .slice R1 a.f2.length r1, .slice F1 a.f3.length f1] 51)).alloc (.cells #[.int .i64 b.f0, .slice P2 b.f1.length p2, .slice R2 b.f2.length r2, .slice F2 b.f3.length f2] 51)).heap[w.heap.size]? = some (.cells #[.int .i64 a.f0, .slice P1 a.f1.length p1, .slice R1 a.f2.length r1, .slice F1 a.f3.length f1] 51 (0, 0)) := blk_alloc (blk_new w _) _
  have q1 : ((w.alloc (.cells #[.int .i64 a.f0, .slice P1 a.f1.length p1, .slice R1 a.f2.length r1, .slice F1 a.f3.length f1] 51)).alloc (.cells #[.int .i64 b.f0, .slice P2 b.f1.length p2, .slice R2 b.f2.length r2, .slice F2 b.f3.length f2] 51)).heap[w.heap.size + 1]? = some (.cells #[.int .i64 b.f0, .slice P2 b.f1.length p2, .slice R2 b.f2.length r2, .slice F2 b.f3.length f2] 51 (0, 0)) := by have h_ := blk_new (w.alloc (.cells #[.int .i64 a.f0, .slice P1 a.f1.length p1, .slice R1 a.f2.length r1, .slice F1 a.f3.length f1] 51)) (.cells #[.int .i64 b.f0, .slice P2 b.f1.length p2, .slice R2 b.f2.length r2, .slice F2 b.f3.length f2] 51); rw [World.size_alloc] at h_; exact h_
  have EV0 : Aside0 (compM l a b = (decide (a.f3.length = 1) && decide (b.f3.length = 1) && (a.f3.zip b.f3).all fun p => fieldM l p.1 p.2)) := ⟨by simp [compM, k3, k3']⟩
  have BA := Aside0.mk ba
  have z03 : ((w.alloc (.cells #[.int .i64 a.f0, .slice P1 a.f1.length p1, .slice R1 a.f2.length r1, .slice F1 a.f3.length f1] 51)).alloc (.cells #[.int .i64 b.f0, .slice P2 b.f1.length p2, .slice R2 b.f2.length r2, .slice F2 b.f3.length f2] 51)).cell? ⟨w.heap.size, 3, none⟩ = some (.slice F1 a.f3.length f1) := (blk_cell q0 3).trans rfl
  have z13 : ((w.alloc (.cells #[.int .i64 a.f0, .slice P1 a.f1.length p1, .slice R1 a.f2.length r1, .slice F1 a.f3.length f1] 51)).alloc (.cells #[.int .i64 b.f0, .slice P2 b.f1.length p2, .slice R2 b.f2.length r2, .slice F2 b.f3.length f2] 51)).cell? ⟨w.heap.size + 1, 3, none⟩ = some (.slice F2 b.f3.length f2) := (blk_cell q1 3).trans rfl
  clear hl hll hc ha hb ba q0 q1
  have e1 : (a.f0 != b.f0) = false := by simp [k3, k3']
  have n1 : (a.f0 == 1) = false := by simp [k3]
  have n3 : (a.f0 == 3) = true := by simp [k3]
  clear k3 k3'
  go_enter Tryd.func63, Tryd.ntmps63
  have e0 : ∃ W, W = ((w.alloc (.cells #[.int .i64 a.f0, .slice P1 a.f1.length p1, .slice R1 a.f2.length r1, .slice F1 a.f3.length f1] 51)).alloc (.cells #[.int .i64 b.f0, .slice P2 b.f1.length p2, .slice R2 b.f2.length r2, .slice F2 b.f3.length f2] 51)) := ⟨_, rfl⟩
  by_cases hla : a.f3.length = 1
  rotate_left
  · have EF : Aside0 (compM l a b = false) := ⟨by rw [EV0.out]; simp [hla]⟩
    have e2 : ((a.f3.length : Int) == 1) = false := by simp; omega
    clear e0
    go_wp2_with fail
    refine start_ (n := 23) (S := fun w' => w'.cell? ⟨w.heap.size, 3, none⟩ = some (.slice F1 a.f3.length f1) ∧ w'.cell? ⟨w.heap.size + 1, 3, none⟩ = some (.slice F2 b.f3.length f2)) (ds := []) #[false, false, false, false, false, false, false, false, false, false, false, false, false, false, false, false, false, false, false, false, false, false, false] (by kernel_rfl) rfl rfl ⟨z03, z13⟩ (fun hHeld => ?_)
    refine pure_ (i := 0) (N := some 33) (v := ?_) (a' := ?_) #[true, false, false, false, false, false, false, false, false, false, false, false, false, false, false, false, false, false, false, false, false, false, false] rfl rfl (by kernel_rfl) (fun _ _ _ h => h) (Or.inl ⟨by rfl, ?_⟩) ?_ ?_
    rotate_left
    · intro w'
      go_simp
      with_reducible rfl
    rotate_left
    · simp only [Act.put, List.setIfInBounds_toArray, List.set_cons_zero, List.set_cons_succ, i64_w, i32_w]
      rfl
    refine take_ (i := 1) (N := some 34) (v := ?_) (a' := ?_) #[true, true, false, false, false, false, false, false, false, false, false, false, false, false, false, false, false, false, false, false, false, false, false] rfl rfl (by kernel_rfl) (fun _ _ _ h => h) (Or.inl ⟨by rfl, ?_⟩) hHeld ?_ ?_
    rotate_left
    · rintro w' ⟨s0, s1⟩
      go_simp
      with_reducible rfl
    rotate_left
    · simp only [Act.put, List.setIfInBounds_toArray, List.set_cons_zero, List.set_cons_succ, i64_w, i32_w]
      rfl
    refine pure_ (i := 2) (N := some 35) (v := ?_) (a' := ?_) #[true, true, true, false, false, false, false, false, false, false, false, false, false, false, false, false, false, false, false, false, false, false, false] rfl rfl (by kernel_rfl) (fun _ _ _ h => h) (Or.inl ⟨by rfl, ?_⟩) ?_ ?_
    rotate_left
    · intro w'
      go_simp
      with_reducible rfl
    rotate_left
    · simp only [Act.put, List.setIfInBounds_toArray, List.set_cons_zero, List.set_cons_succ, i64_w, i32_w]
      rfl
    refine pure_ (i := 3) (N := some 36) (v := ?_) (a' := ?_) #[true, true, true, true, false, false, false, false, false, false, false, false, false, false, false, false, false, false, false, false, false, false, false] rfl rfl (by kernel_rfl) (fun _ _ _ h => h) (Or.inl ⟨by rfl, ?_⟩) ?_ ?_
    rotate_left
    · intro w'
      go_simp
      with_reducible rfl
    rotate_left
    · simp only [Act.put, List.setIfInBounds_toArray, List.set_cons_zero, List.set_cons_succ, i64_w, i32_w]
      rfl
    refine pure_ (i := 4) (N := some 37) (v := ?_) (a' := ?_) #[true, true, true, true, true, false, false, false, false, false, false, false, false, false, false, false, false, false, false, false, false, false, false] rfl rfl (by kernel_rfl) (fun _ _ _ h => h) (Or.inl ⟨by rfl, ?_⟩) ?_ ?_
    rotate_left
    · intro w'
      go_simp
      with_reducible rfl
    rotate_left
    · simp only [Act.put, List.setIfInBounds_toArray, List.set_cons_zero, List.set_cons_succ, i64_w, i32_w]
      rfl
    refine pure_ (i := 5) (N := some 38) (v := undef) (a' := ?_) #[true, true, true, true, true, true, false, false, false, false, false, false, false, false, false, false, false, false, false, false, false, false, false] rfl rfl (by kernel_rfl) (fun _ _ _ h => h) (Or.inr ⟨by rfl, rfl⟩) ?_ ?_
    rotate_left
    · simp only [Act.put, List.setIfInBounds_toArray, List.set_cons_zero, List.set_cons_succ, i64_w, i32_w]
      rfl
    refine pure_ (i := 6) (N := some 39) (v := undef) (a' := ?_) #[true, true, true, true, true, true, true, false, false, false, false, false, false, false, false, false, false, false, false, false, false, false, false] rfl rfl (by kernel_rfl) (fun _ _ _ h => h) (Or.inr ⟨by rfl, rfl⟩) ?_ ?_
    rotate_left
    · simp only [Act.put, List.setIfInBounds_toArray, List.set_cons_zero, List.set_cons_succ, i64_w, i32_w]
      rfl
    refine pure_ (i := 7) (N := some 40) (v := undef) (a' := ?_) #[true, true, true, true, true, true, true, true, false, false, false, false, false, false, false, false, false, false, false, false, false, false, false] rfl rfl (by kernel_rfl) (fun _ _ _ h => h) (Or.inr ⟨by rfl, rfl⟩) ?_ ?_
    rotate_left
    · simp only [Act.put, List.setIfInBounds_toArray, List.set_cons_zero, List.set_cons_succ, i64_w, i32_w]
      rfl
    refine pure_ (i := 8) (N := some 41) (v := undef) (a' := ?_) #[true, true, true, true, true, true, true, true, true, false, false, false, false, false, false, false, false, false, false, false, false, false, false] rfl rfl (by kernel_rfl) (fun _ _ _ h => h) (Or.inr ⟨by rfl, rfl⟩) ?_ ?_
    rotate_left
    · simp only [Act.put, List.setIfInBounds_toArray, List.set_cons_zero, List.set_cons_succ, i64_w, i32_w]
      rfl
    refine pure_ (i := 9) (N := some 42) (v := ?_) (a' := ?_) #[true, true, true, true, true, true, true, true, true, true, false, false, false, false, false, false, false, false, false, false, false, false, false] rfl rfl (by kernel_rfl) (fun _ _ _ h => h) (Or.inl ⟨by rfl, ?_⟩) ?_ ?_
    rotate_left
    · intro w'
      go_simp
      with_reducible rfl
    rotate_left
    · simp only [Act.put, List.setIfInBounds_toArray, List.set_cons_zero, List.set_cons_succ, i64_w, i32_w]
      rfl
    refine pure_ (i := 10) (N := some 43) (v := ?_) (a' := ?_) #[true, true, true, true, true, true, true, true, true, true, true, false, false, false, false, false, false, false, false, false, false, false, false] rfl rfl (by kernel_rfl) (fun _ _ _ h => h) (Or.inl ⟨by rfl, ?_⟩) ?_ ?_
    rotate_left
    · intro w'
      go_simp
      with_reducible rfl
    rotate_left
    · simp only [Act.put, List.setIfInBounds_toArray, List.set_cons_zero, List.set_cons_succ, i64_w, i32_w]
      rfl
    refine pure_ (i := 11) (N := some 44) (v := undef) (a' := ?_) #[true, true, true, true, true, true, true, true, true, true, true, true, false, false, false, false, false, false, false, false, false, false, false] rfl rfl (by kernel_rfl) (fun _ _ _ h => h) (Or.inr ⟨by rfl, rfl⟩) ?_ ?_
    rotate_left
    · simp only [Act.put, List.setIfInBounds_toArray, List.set_cons_zero, List.set_cons_succ, i64_w, i32_w]
      rfl
    refine pure_ (i := 12) (N := some 45) (v := undef) (a' := ?_) #[true, true, true, true, true, true, true, true, true, true, true, true, true, false, false, false, false, false, false, false, false, false, false] rfl rfl (by kernel_rfl) (fun _ _ _ h => h) (Or.inr ⟨by rfl, rfl⟩) ?_ ?_
    rotate_left
    · simp only [Act.put, List.setIfInBounds_toArray, List.set_cons_zero, List.set_cons_succ, i64_w, i32_w]
      rfl
    refine pure_ (i := 13) (N := some 46) (v := undef) (a' := ?_) #[true, true, true, true, true, true, true, true, true, true, true, true, true, true, false, false, false, false, false, false, false, false, false] rfl rfl (by kernel_rfl) (fun _ _ _ h => h) (Or.inr ⟨by rfl, rfl⟩) ?_ ?_
    rotate_left
    · simp only [Act.put, List.setIfInBounds_toArray, List.set_cons_zero, List.set_cons_succ, i64_w, i32_w]
      rfl
    refine pure_ (i := 14) (N := some 47) (v := undef) (a' := ?_) #[true, true, true, true, true, true, true, true, true, true, true, true, true, true, true, false, false, false, false, false, false, false, false] rfl rfl (by kernel_rfl) (fun _ _ _ h => h) (Or.inr ⟨by rfl, rfl⟩) ?_ ?_
    rotate_left
    · simp only [Act.put, List.setIfInBounds_toArray, List.set_cons_zero, List.set_cons_succ, i64_w, i32_w]
      rfl
    refine pure_ (i := 15) (N := some 48) (v := undef) (a' := ?_) #[true, true, true, true, true, true, true, true, true, true, true, true, true, true, true, true, false, false, false, false, false, false, false] rfl rfl (by kernel_rfl) (fun _ _ _ h => h) (Or.inr ⟨by rfl, rfl⟩) ?_ ?_
    rotate_left
    · simp only [Act.put, List.setIfInBounds_toArray, List.set_cons_zero, List.set_cons_succ, i64_w, i32_w]
      rfl
    refine pure_ (i := 16) (N := some 49) (v := undef) (a' := ?_) #[true, true, true, true, true, true, true, true, true, true, true, true, true, true, true, true, true, false, false, false, false, false, false] rfl rfl (by kernel_rfl) (fun _ _ _ h => h) (Or.inr ⟨by rfl, rfl⟩) ?_ ?_
    rotate_left
    · simp only [Act.put, List.setIfInBounds_toArray, List.set_cons_zero, List.set_cons_succ, i64_w, i32_w]
      rfl
    refine pure_ (i := 17) (N := some 50) (v := undef) (a' := ?_) #[true, true, true, true, true, true, true, true, true, true, true, true, true, true, true, true, true, true, false, false, false, false, false] rfl rfl (by kernel_rfl) (fun _ _ _ h => h) (Or.inr ⟨by rfl, rfl⟩) ?_ ?_
    rotate_left
    · simp only [Act.put, List.setIfInBounds_toArray, List.set_cons_zero, List.set_cons_succ, i64_w, i32_w]
      rfl
    refine pure_ (i := 18) (N := some 51) (v := undef) (a' := ?_) #[true, true, true, true, true, true, true, true, true, true, true, true, true, true, true, true, true, true, true, false, false, false, false] rfl rfl (by kernel_rfl) (fun _ _ _ h => h) (Or.inr ⟨by rfl, rfl⟩) ?_ ?_
    rotate_left
    · simp only [Act.put, List.setIfInBounds_toArray, List.set_cons_zero, List.set_cons_succ, i64_w, i32_w]
      rfl
    refine pure_ (i := 19) (N := some 52) (v := undef) (a' := ?_) #[true, true, true, true, true, true, true, true, true, true, true, true, true, true, true, true, true, true, true, true, false, false, false] rfl rfl (by kernel_rfl) (fun _ _ _ h => h) (Or.inr ⟨by rfl, rfl⟩) ?_ ?_
    rotate_left
    · simp only [Act.put, List.setIfInBounds_toArray, List.set_cons_zero, List.set_cons_succ, i64_w, i32_w]
      rfl
    refine pure_ (i := 20) (N := some 53) (v := undef) (a' := ?_) #[true, true, true, true, true, true, true, true, true, true, true, true, true, true, true, true, true, true, true, true, true, false, false] rfl rfl (by kernel_rfl) (fun _ _ _ h => h) (Or.inr ⟨by rfl, rfl⟩) ?_ ?_
    rotate_left
    · simp only [Act.put, List.setIfInBounds_toArray, List.set_cons_zero, List.set_cons_succ, i64_w, i32_w]
      rfl
    refine pure_ (i := 21) (N := some 54) (v := ?_) (a' := ?_) #[true, true, true, true, true, true, true, true, true, true, true, true, true, true, true, true, true, true, true, true, true, true, false] rfl rfl (by kernel_rfl) (fun _ _ _ h => h) (Or.inl ⟨by rfl, ?_⟩) ?_ ?_
    rotate_left
    · intro w'
      go_simp
      with_reducible rfl
    rotate_left
    · simp only [Act.put, List.setIfInBounds_toArray, List.set_cons_zero, List.set_cons_succ, i64_w, i32_w]
      rfl
    refine pure_ (i := 22) (N := some 6) (v := ?_) (a' := ?_) #[true, true, true, true, true, true, true, true, true, true, true, true, true, true, true, true, true, true, true, true, true, true, true] rfl rfl (by kernel_rfl) (fun _ _ _ h => h) (Or.inl ⟨by rfl, ?_⟩) ?_ ?_
    rotate_left
    · intro w'
      go_simp
      with_reducible rfl
    rotate_left
    · simp only [Act.put, List.setIfInBounds_toArray, List.set_cons_zero, List.set_cons_succ, i64_w, i32_w]
      rfl
    refine done_ (by kernel_rfl) ?_
    
    go_wp2_with fail
    go_ret
    exact ⟨by rw [EF.out]; rfl, BA.out.drew⟩
  have e2 : ((a.f3.length : Int) == 1) = true := by simp; omega
  by_cases hlb : b.f3.length = 1
  rotate_left
  · have EF : Aside0 (compM l a b = false) := ⟨by rw [EV0.out]; simp [hlb]⟩
    have e3 : ((b.f3.length : Int) == 1) = false := by simp; omega
    clear e0 hla hlb
    go_wp2_with fail
    refine start_ (n := 23) (S := fun w' => w'.cell? ⟨w.heap.size, 3, none⟩ = some (.slice F1 a.f3.length f1) ∧ w'.cell? ⟨w.heap.size + 1, 3, none⟩ = some (.slice F2 b.f3.length f2)) (ds := []) #[false, false, false, false, false, false, false, false, false, false, false, false, false, false, false, false, false, false, false, false, false, false, false] (by kernel_rfl) rfl rfl ⟨z03, z13⟩ (fun hHeld => ?_)
    refine pure_ (i := 0) (N := some 33) (v := ?_) (a' := ?_) #[true, false, false, false, false, false, false, false, false, false, false, false, false, false, false, false, false, false, false, false, false, false, false] rfl rfl (by kernel_rfl) (fun _ _ _ h => h) (Or.inl ⟨by rfl, ?_⟩) ?_ ?_
    rotate_left
    · intro w'
      go_simp
      with_reducible rfl
    rotate_left
    · simp only [Act.put, List.setIfInBounds_toArray, List.set_cons_zero, List.set_cons_succ, i64_w, i32_w]
      rfl
    refine take_ (i := 1) (N := some 34) (v := ?_) (a' := ?_) #[true, true, false, false, false, false, false, false, false, false, false, false, false, false, false, false, false, false, false, false, false, false, false] rfl rfl (by kernel_rfl) (fun _ _ _ h => h) (Or.inl ⟨by rfl, ?_⟩) hHeld ?_ ?_
    rotate_left
    · rintro w' ⟨s0, s1⟩
      go_simp
      with_reducible rfl
    rotate_left
    · simp only [Act.put, List.setIfInBounds_toArray, List.set_cons_zero, List.set_cons_succ, i64_w, i32_w]
      rfl
    refine pure_ (i := 2) (N := some 35) (v := ?_) (a' := ?_) #[true, true, true, false, false, false, false, false, false, false, false, false, false, false, false, false, false, false, false, false, false, false, false] rfl rfl (by kernel_rfl) (fun _ _ _ h => h) (Or.inl ⟨by rfl, ?_⟩) ?_ ?_
    rotate_left
    · intro w'
      go_simp
      with_reducible rfl
    rotate_left
    · simp only [Act.put, List.setIfInBounds_toArray, List.set_cons_zero, List.set_cons_succ, i64_w, i32_w]
      rfl
    refine pure_ (i := 3) (N := some 36) (v := ?_) (a' := ?_) #[true, true, true, true, false, false, false, false, false, false, false, false, false, false, false, false, false, false, false, false, false, false, false] rfl rfl (by kernel_rfl) (fun _ _ _ h => h) (Or.inl ⟨by rfl, ?_⟩) ?_ ?_
    rotate_left
    · intro w'
      go_simp
      with_reducible rfl
    rotate_left
    · simp only [Act.put, List.setIfInBounds_toArray, List.set_cons_zero, List.set_cons_succ, i64_w, i32_w]
      rfl
    refine pure_ (i := 4) (N := some 37) (v := ?_) (a' := ?_) #[true, true, true, true, true, false, false, false, false, false, false, false, false, false, false, false, false, false, false, false, false, false, false] rfl rfl (by kernel_rfl) (fun _ _ _ h => h) (Or.inl ⟨by rfl, ?_⟩) ?_ ?_
    rotate_left
    · intro w'
      go_simp
      with_reducible rfl
    rotate_left
    · simp only [Act.put, List.setIfInBounds_toArray, List.set_cons_zero, List.set_cons_succ, i64_w, i32_w]
      rfl
    refine pure_ (i := 5) (N := some 38) (v := ?_) (a' := ?_) #[true, true, true, true, true, true, false, false, false, false, false, false, false, false, false, false, false, false, false, false, false, false, false] rfl rfl (by kernel_rfl) (fun _ _ _ h => h) (Or.inl ⟨by rfl, ?_⟩) ?_ ?_
    rotate_left
    · intro w'
      go_simp
      with_reducible rfl
    rotate_left
    · simp only [Act.put, List.setIfInBounds_toArray, List.set_cons_zero, List.set_cons_succ, i64_w, i32_w]
      rfl
    refine take_ (i := 6) (N := some 39) (v := ?_) (a' := ?_) #[true, true, true, true, true, true, true, false, false, false, false, false, false, false, false, false, false, false, false, false, false, false, false] rfl rfl (by kernel_rfl) (fun _ _ _ h => h) (Or.inl ⟨by rfl, ?_⟩) hHeld ?_ ?_
    rotate_left
    · rintro w' ⟨s0, s1⟩
      go_simp
      with_reducible rfl
    rotate_left
    · simp only [Act.put, List.setIfInBounds_toArray, List.set_cons_zero, List.set_cons_succ, i64_w, i32_w]
      rfl
    refine pure_ (i := 7) (N := some 40) (v := ?_) (a' := ?_) #[true, true, true, true, true, true, true, true, false, false, false, false, false, false, false, false, false, false, false, false, false, false, false] rfl rfl (by kernel_rfl) (fun _ _ _ h => h) (Or.inl ⟨by rfl, ?_⟩) ?_ ?_
    rotate_left
    · intro w'
      go_simp
      with_reducible rfl
    rotate_left
    · simp only [Act.put, List.setIfInBounds_toArray, List.set_cons_zero, List.set_cons_succ, i64_w, i32_w]
      rfl
    refine pure_ (i := 8) (N := some 41) (v := ?_) (a' := ?_) #[true, true, true, true, true, true, true, true, true, false, false, false, false, false, false, false, false, false, false, false, false, false, false] rfl rfl (by kernel_rfl) (fun _ _ _ h => h) (Or.inl ⟨by rfl, ?_⟩) ?_ ?_
    rotate_left
    · intro w'
      go_simp
      with_reducible rfl
    rotate_left
    · simp only [Act.put, List.setIfInBounds_toArray, List.set_cons_zero, List.set_cons_succ, i64_w, i32_w]
      rfl
    refine pure_ (i := 9) (N := some 42) (v := ?_) (a' := ?_) #[true, true, true, true, true, true, true, true, true, true, false, false, false, false, false, false, false, false, false, false, false, false, false] rfl rfl (by kernel_rfl) (fun _ _ _ h => h) (Or.inl ⟨by rfl, ?_⟩) ?_ ?_
    rotate_left
    · intro w'
      go_simp
      with_reducible rfl
    rotate_left
    · simp only [Act.put, List.setIfInBounds_toArray, List.set_cons_zero, List.set_cons_succ, i64_w, i32_w]
      rfl
    refine pure_ (i := 10) (N := some 43) (v := ?_) (a' := ?_) #[true, true, true, true, true, true, true, true, true, true, true, false, false, false, false, false, false, false, false, false, false, false, false] rfl rfl (by kernel_rfl) (fun _ _ _ h => h) (Or.inl ⟨by rfl, ?_⟩) ?_ ?_
    rotate_left
    · intro w'
      go_simp
      with_reducible rfl
    rotate_left
    · simp only [Act.put, List.setIfInBounds_toArray, List.set_cons_zero, List.set_cons_succ, i64_w, i32_w]
      rfl
    refine pure_ (i := 11) (N := some 44) (v := undef) (a' := ?_) #[true, true, true, true, true, true, true, true, true, true, true, true, false, false, false, false, false, false, false, false, false, false, false] rfl rfl (by kernel_rfl) (fun _ _ _ h => h) (Or.inr ⟨by rfl, rfl⟩) ?_ ?_
    rotate_left
    · simp only [Act.put, List.setIfInBounds_toArray, List.set_cons_zero, List.set_cons_succ, i64_w, i32_w]
      rfl
    refine pure_ (i := 12) (N := some 45) (v := undef) (a' := ?_) #[true, true, true, true, true, true, true, true, true, true, true, true, true, false, false, false, false, false, false, false, false, false, false] rfl rfl (by kernel_rfl) (fun _ _ _ h => h) (Or.inr ⟨by rfl, rfl⟩) ?_ ?_
    rotate_left
    · simp only [Act.put, List.setIfInBounds_toArray, List.set_cons_zero, List.set_cons_succ, i64_w, i32_w]
      rfl
    refine pure_ (i := 13) (N := some 46) (v := undef) (a' := ?_) #[true, true, true, true, true, true, true, true, true, true, true, true, true, true, false, false, false, false, false, false, false, false, false] rfl rfl (by kernel_rfl) (fun _ _ _ h => h) (Or.inr ⟨by rfl, rfl⟩) ?_ ?_
    rotate_left
    · simp only [Act.put, List.setIfInBounds_toArray, List.set_cons_zero, List.set_cons_succ, i64_w, i32_w]
      rfl
    refine pure_ (i := 14) (N := some 47) (v := undef) (a' := ?_) #[true, true, true, true, true, true, true, true, true, true, true, true, true, true, true, false, false, false, false, false, false, false, false] rfl rfl (by kernel_rfl) (fun _ _ _ h => h) (Or.inr ⟨by rfl, rfl⟩) ?_ ?_
    rotate_left
    · simp only [Act.put, List.setIfInBounds_toArray, List.set_cons_zero, List.set_cons_succ, i64_w, i32_w]
      rfl
    refine pure_ (i := 15) (N := some 48) (v := undef) (a' := ?_) #[true, true, true, true, true, true, true, true, true, true, true, true, true, true, true, true, false, false, false, false, false, false, false] rfl rfl (by kernel_rfl) (fun _ _ _ h => h) (Or.inr ⟨by rfl, rfl⟩) ?_ ?_
    rotate_left
    · simp only [Act.put, List.setIfInBounds_toArray, List.set_cons_zero, List.set_cons_succ, i64_w, i32_w]
      rfl
    refine pure_ (i := 16) (N := some 49) (v := undef) (a' := ?_) #[true, true, true, true, true, true, true, true, true, true, true, true, true, true, true, true, true, false, false, false, false, false, false] rfl rfl (by kernel_rfl) (fun _ _ _ h => h) (Or.inr ⟨by rfl, rfl⟩) ?_ ?_
    rotate_left
    · simp only [Act.put, List.setIfInBounds_toArray, List.set_cons_zero, List.set_cons_succ, i64_w, i32_w]
      rfl
    refine pure_ (i := 17) (N := some 50) (v := undef) (a' := ?_) #[true, true, true, true, true, true, true, true, true, true, true, true, true, true, true, true, true, true, false, false, false, false, false] rfl rfl (by kernel_rfl) (fun _ _ _ h => h) (Or.inr ⟨by rfl, rfl⟩) ?_ ?_
    rotate_left
    · simp only [Act.put, List.setIfInBounds_toArray, List.set_cons_zero, List.set_cons_succ, i64_w, i32_w]
      rfl
    refine pure_ (i := 18) (N := some 51) (v := undef) (a' := ?_) #[true, true, true, true, true, true, true, true, true, true, true, true, true, true, true, true, true, true, true, false, false, false, false] rfl rfl (by kernel_rfl) (fun _ _ _ h => h) (Or.inr ⟨by rfl, rfl⟩) ?_ ?_
    rotate_left
    · simp only [Act.put, List.setIfInBounds_toArray, List.set_cons_zero, List.set_cons_succ, i64_w, i32_w]
      rfl
    refine pure_ (i := 19) (N := some 52) (v := undef) (a' := ?_) #[true, true, true, true, true, true, true, true, true, true, true, true, true, true, true, true, true, true, true, true, false, false, false] rfl rfl (by kernel_rfl) (fun _ _ _ h => h) (Or.inr ⟨by rfl, rfl⟩) ?_ ?_
    rotate_left
    · simp only [Act.put, List.setIfInBounds_toArray, List.set_cons_zero, List.set_cons_succ, i64_w, i32_w]
      rfl
    refine pure_ (i := 20) (N := some 53) (v := undef) (a' := ?_) #[true, true, true, true, true, true, true, true, true, true, true, true, true, true, true, true, true, true, true, true, true, false, false] rfl rfl (by kernel_rfl) (fun _ _ _ h => h) (Or.inr ⟨by rfl, rfl⟩) ?_ ?_
    rotate_left
    · simp only [Act.put, List.setIfInBounds_toArray, List.set_cons_zero, List.set_cons_succ, i64_w, i32_w]
      rfl
    refine pure_ (i := 21) (N := some 54) (v := ?_) (a' := ?_) #[true, true, true, true, true, true, true, true, true, true, true, true, true, true, true, true, true, true, true, true, true, true, false] rfl rfl (by kernel_rfl) (fun _ _ _ h => h) (Or.inl ⟨by rfl, ?_⟩) ?_ ?_
    rotate_left
    · intro w'
      go_simp
      with_reducible rfl
    rotate_left
    · simp only [Act.put, List.setIfInBounds_toArray, List.set_cons_zero, List.set_cons_succ, i64_w, i32_w]
      rfl
    refine pure_ (i := 22) (N := some 6) (v := ?_) (a' := ?_) #[true, true, true, true, true, true, true, true, true, true, true, true, true, true, true, true, true, true, true, true, true, true, true] rfl rfl (by kernel_rfl) (fun _ _ _ h => h) (Or.inl ⟨by rfl, ?_⟩) ?_ ?_
    rotate_left
    · intro w'
      go_simp
      with_reducible rfl
    rotate_left
    · simp only [Act.put, List.setIfInBounds_toArray, List.set_cons_zero, List.set_cons_succ, i64_w, i32_w]
      rfl
    refine done_ (by kernel_rfl) ?_
    
    go_wp2_with fail
    go_ret
    exact ⟨by rw [EF.out]; rfl, BA.out.drew⟩
  have e3 : ((b.f3.length : Int) == 1) = true := by simp; omega
  obtain ⟨x, hx⟩ : ∃ x, a.f3 = [x] := List.length_eq_one_iff.1 hla
  obtain ⟨y, hy⟩ : ∃ y, b.f3 = [y] := List.length_eq_one_iff.1 hlb
  have EV : Aside0 (compM l a b = fieldM l x y) := ⟨by rw [EV0.out]; simp [hx, hy]⟩
  obtain ⟨aa, ea, d0, d1, d2, d3⟩ := at_T118 HA.out.f 0 (by omega) (by omega)
  obtain ⟨ab, eb, g0, g1, g2, g3⟩ := at_T118 HB.out.f 0 (by omega) (by omega)
  have ex : rd_T118 a.f3 0 = x := by rw [hx]; rfl
  have ey : rd_T118 b.f3 0 = y := by rw [hy]; rfl
  rw [ex] at d0 d1 d2 d3
  rw [ey] at g0 g1 g2 g3
  subst ea
  subst eb
  have hla' : (0 : Int) < (a.f3.length : Int) := by omega
  have hlb' : (0 : Int) < (b.f3.length : Int) := by omega
  have hla2 : 0 < a.f3.length := by omega
  have hlb2 : 0 < b.f3.length := by omega
  clear hx hy ex ey e0 EV0 hla hlb
  have ea0 : aa.add (Int.toNat 0 * 4) = aa := by simp [Addr.add]
  have eb0 : ab.add (Int.toNat 0 * 4) = ab := by simp [Addr.add]
  rw [ea0] at d0 d1 d2 d3
  rw [eb0] at g0 g1 g2 g3
  clear ea0 eb0
  replace d0 := (BA.out.cell (World.block_lt_of_cell? w _ d0)).trans d0
  replace d1 := (BA.out.cell (World.block_lt_of_cell? w _ d1)).trans d1
  replace d2 := (BA.out.cell (World.block_lt_of_cell? w _ d2)).trans d2
  replace d3 := (BA.out.cell (World.block_lt_of_cell? w _ d3)).trans d3
  replace g0 := (BA.out.cell (World.block_lt_of_cell? w _ g0)).trans g0
  replace g1 := (BA.out.cell (World.block_lt_of_cell? w _ g1)).trans g1
  replace g2 := (BA.out.cell (World.block_lt_of_cell? w _ g2)).trans g2
  replace g3 := (BA.out.cell (World.block_lt_of_cell? w _ g3)).trans g3
  go_wp2_with fail
  refine start_ (n := 23) (S := fun w' => w'.cell? ⟨w.heap.size, 3, none⟩ = some (.slice (some aa) a.f3.length f1) ∧ w'.cell? ⟨w.heap.size + 1, 3, none⟩ = some (.slice (some ab) b.f3.length f2) ∧ w'.cell? aa = some (.int .i64 x.f0.f0) ∧ w'.cell? ⟨aa.block, aa.off + 1, none⟩ = some (.bool x.f0.f1) ∧ w'.cell? ⟨aa.block, aa.off + 2, none⟩ = some (.int .i64 x.f0.f2) ∧ w'.cell? ⟨aa.block, aa.off + 3, none⟩ = some (.bool x.f1) ∧ w'.cell? ab = some (.int .i64 y.f0.f0) ∧ w'.cell? ⟨ab.block, ab.off + 1, none⟩ = some (.bool y.f0.f1) ∧ w'.cell? ⟨ab.block, ab.off + 2, none⟩ = some (.int .i64 y.f0.f2) ∧ w'.cell? ⟨ab.block, ab.off + 3, none⟩ = some (.bool y.f1)) (ds := []) #[false, false, false, false, false, false, false, false, false, false, false, false, false, false, false, false, false, false, false, false, false, false, false] (by kernel_rfl) rfl rfl ⟨z03, z13, d0, d1, d2, d3, g0, g1, g2, g3⟩ (fun hHeld => ?_)
  have BE : Aside0 (Below w.heap.size w ((w.alloc (.cells #[.int .i64 a.f0, .slice P1 a.f1.length p1, .slice R1 a.f2.length r1, .slice (some aa) a.f3.length f1] 51)).alloc (.cells #[.int .i64 b.f0, .slice P2 b.f1.length p2, .slice R2 b.f2.length r2, .slice (some ab) b.f3.length f2] 51)).drew) := ⟨BA.out.drew⟩
  replace z03 : ((w.alloc (.cells #[.int .i64 a.f0, .slice P1 a.f1.length p1, .slice R1 a.f2.length r1, .slice (some aa) a.f3.length f1] 51)).alloc (.cells #[.int .i64 b.f0, .slice P2 b.f1.length p2, .slice R2 b.f2.length r2, .slice (some ab) b.f3.length f2] 51)).drew.cell? _ = _ := z03
  replace z13 : ((w.alloc (.cells #[.int .i64 a.f0, .slice P1 a.f1.length p1, .slice R1 a.f2.length r1, .slice (some aa) a.f3.length f1] 51)).alloc (.cells #[.int .i64 b.f0, .slice P2 b.f1.length p2, .slice R2 b.f2.length r2, .slice (some ab) b.f3.length f2] 51)).drew.cell? _ = _ := z13
  replace d0 : ((w.alloc (.cells #[.int .i64 a.f0, .slice P1 a.f1.length p1, .slice R1 a.f2.length r1, .slice (some aa) a.f3.length f1] 51)).alloc (.cells #[.int .i64 b.f0, .slice P2 b.f1.length p2, .slice R2 b.f2.length r2, .slice (some ab) b.f3.length f2] 51)).drew.cell? _ = _ := d0
  replace d1 : ((w.alloc (.cells #[.int .i64 a.f0, .slice P1 a.f1.length p1, .slice R1 a.f2.length r1, .slice (some aa) a.f3.length f1] 51)).alloc (.cells #[.int .i64 b.f0, .slice P2 b.f1.length p2, .slice R2 b.f2.length r2, .slice (some ab) b.f3.length f2] 51)).drew.cell? _ = _ := d1
  replace d2 : ((w.alloc (.cells #[.int .i64 a.f0, .slice P1 a.f1.length p1, .slice R1 a.f2.length r1, .slice (some aa) a.f3.length f1] 51)).alloc (.cells #[.int .i64 b.f0, .slice P2 b.f1.length p2, .slice R2 b.f2.length r2, .slice (some ab) b.f3.length f2] 51)).drew.cell? _ = _ := d2
  replace d3 : ((w.alloc (.cells #[.int .i64 a.f0, .slice P1 a.f1.length p1, .slice R1 a.f2.length r1, .slice (some aa) a.f3.length f1] 51)).alloc (.cells #[.int .i64 b.f0, .slice P2 b.f1.length p2, .slice R2 b.f2.length r2, .slice (some ab) b.f3.length f2] 51)).drew.cell? _ = _ := d3
  replace g0 : ((w.alloc (.cells #[.int .i64 a.f0, .slice P1 a.f1.length p1, .slice R1 a.f2.length r1, .slice (some aa) a.f3.length f1] 51)).alloc (.cells #[.int .i64 b.f0, .slice P2 b.f1.length p2, .slice R2 b.f2.length r2, .slice (some ab) b.f3.length f2] 51)).drew.cell? _ = _ := g0
  replace g1 : ((w.alloc (.cells #[.int .i64 a.f0, .slice P1 a.f1.length p1, .slice R1 a.f2.length r1, .slice (some aa) a.f3.length f1] 51)).alloc (.cells #[.int .i64 b.f0, .slice P2 b.f1.length p2, .slice R2 b.f2.length r2, .slice (some ab) b.f3.length f2] 51)).drew.cell? _ = _ := g1
  replace g2 : ((w.alloc (.cells #[.int .i64 a.f0, .slice P1 a.f1.length p1, .slice R1 a.f2.length r1, .slice (some aa) a.f3.length f1] 51)).alloc (.cells #[.int .i64 b.f0, .slice P2 b.f1.length p2, .slice R2 b.f2.length r2, .slice (some ab) b.f3.length f2] 51)).drew.cell? _ = _ := g2
  replace g3 : ((w.alloc (.cells #[.int .i64 a.f0, .slice P1 a.f1.length p1, .slice R1 a.f2.length r1, .slice (some aa) a.f3.length f1] 51)).alloc (.cells #[.int .i64 b.f0, .slice P2 b.f1.length p2, .slice R2 b.f2.length r2, .slice (some ab) b.f3.length f2] 51)).drew.cell? _ = _ := g3
  generalize ((w.alloc (.cells #[.int .i64 a.f0, .slice P1 a.f1.length p1, .slice R1 a.f2.length r1, .slice (some aa) a.f3.length f1] 51)).alloc (.cells #[.int .i64 b.f0, .slice P2 b.f1.length p2, .slice R2 b.f2.length r2, .slice (some ab) b.f3.length f2] 51)).drew = w5 at BE z03 z13 d0 d1 d2 d3 g0 g1 g2 g3 hHeld ⊢
  refine pure_ (i := 0) (N := some 33) (v := ?_) (a' := ?_) #[true, false, false, false, false, false, false, false, false, false, false, false, false, false, false, false, false, false, false, false, false, false, false] rfl rfl (by kernel_rfl) (fun _ _ _ h => h) (Or.inl ⟨by rfl, ?_⟩) ?_ ?_
  rotate_left
  · intro w'
    go_simp
    with_reducible rfl
  rotate_left
  · simp only [Act.put, List.setIfInBounds_toArray, List.set_cons_zero, List.set_cons_succ, i64_w, i32_w]
    rfl
  refine take_ (i := 1) (N := some 34) (v := ?_) (a' := ?_) #[true, true, false, false, false, false, false, false, false, false, false, false, false, false, false, false, false, false, false, false, false, false, false] rfl rfl (by kernel_rfl) (fun _ _ _ h => h) (Or.inl ⟨by rfl, ?_⟩) hHeld ?_ ?_
  rotate_left
  · rintro w' ⟨s0, s1, s2, s3, s4, s5, s6, s7, s8, s9⟩
    go_simp
    with_reducible rfl
  rotate_left
  · simp only [Act.put, List.setIfInBounds_toArray, List.set_cons_zero, List.set_cons_succ, i64_w, i32_w]
    rfl
  refine pure_ (i := 2) (N := some 35) (v := ?_) (a' := ?_) #[true, true, true, false, false, false, false, false, false, false, false, false, false, false, false, false, false, false, false, false, false, false, false] rfl rfl (by kernel_rfl) (fun _ _ _ h => h) (Or.inl ⟨by rfl, ?_⟩) ?_ ?_
  rotate_left
  · intro w'
    go_simp
    with_reducible rfl
  rotate_left
  · simp only [Act.put, List.setIfInBounds_toArray, List.set_cons_zero, List.set_cons_succ, i64_w, i32_w]
    rfl
  refine pure_ (i := 3) (N := some 36) (v := ?_) (a' := ?_) #[true, true, true, true, false, false, false, false, false, false, false, false, false, false, false, false, false, false, false, false, false, false, false] rfl rfl (by kernel_rfl) (fun _ _ _ h => h) (Or.inl ⟨by rfl, ?_⟩) ?_ ?_
  rotate_left
  · intro w'
    go_simp
    with_reducible rfl
  rotate_left
  · simp only [Act.put, List.setIfInBounds_toArray, List.set_cons_zero, List.set_cons_succ, i64_w, i32_w]
    rfl
  refine pure_ (i := 4) (N := some 37) (v := ?_) (a' := ?_) #[true, true, true, true, true, false, false, false, false, false, false, false, false, false, false, false, false, false, false, false, false, false, false] rfl rfl (by kernel_rfl) (fun _ _ _ h => h) (Or.inl ⟨by rfl, ?_⟩) ?_ ?_
  rotate_left
  · intro w'
    go_simp
    with_reducible rfl
  rotate_left
  · simp only [Act.put, List.setIfInBounds_toArray, List.set_cons_zero, List.set_cons_succ, i64_w, i32_w]
    rfl
  refine pure_ (i := 5) (N := some 38) (v := ?_) (a' := ?_) #[true, true, true, true, true, true, false, false, false, false, false, false, false, false, false, false, false, false, false, false, false, false, false] rfl rfl (by kernel_rfl) (fun _ _ _ h => h) (Or.inl ⟨by rfl, ?_⟩) ?_ ?_
  rotate_left
  · intro w'
    go_simp
    with_reducible rfl
  rotate_left
  · simp only [Act.put, List.setIfInBounds_toArray, List.set_cons_zero, List.set_cons_succ, i64_w, i32_w]
    rfl
  refine take_ (i := 6) (N := some 39) (v := ?_) (a' := ?_) #[true, true, true, true, true, true, true, false, false, false, false, false, false, false, false, false, false, false, false, false, false, false, false] rfl rfl (by kernel_rfl) (fun _ _ _ h => h) (Or.inl ⟨by rfl, ?_⟩) hHeld ?_ ?_
  rotate_left
  · rintro w' ⟨s0, s1, s2, s3, s4, s5, s6, s7, s8, s9⟩
    go_simp
    with_reducible rfl
  rotate_left
  · simp only [Act.put, List.setIfInBounds_toArray, List.set_cons_zero, List.set_cons_succ, i64_w, i32_w]
    rfl
  refine pure_ (i := 7) (N := some 40) (v := ?_) (a' := ?_) #[true, true, true, true, true, true, true, true, false, false, false, false, false, false, false, false, false, false, false, false, false, false, false] rfl rfl (by kernel_rfl) (fun _ _ _ h => h) (Or.inl ⟨by rfl, ?_⟩) ?_ ?_
  rotate_left
  · intro w'
    go_simp
    with_reducible rfl
  rotate_left
  · simp only [Act.put, List.setIfInBounds_toArray, List.set_cons_zero, List.set_cons_succ, i64_w, i32_w]
    rfl
  refine pure_ (i := 8) (N := some 41) (v := ?_) (a' := ?_) #[true, true, true, true, true, true, true, true, true, false, false, false, false, false, false, false, false, false, false, false, false, false, false] rfl rfl (by kernel_rfl) (fun _ _ _ h => h) (Or.inl ⟨by rfl, ?_⟩) ?_ ?_
  rotate_left
  · intro w'
    go_simp
    with_reducible rfl
  rotate_left
  · simp only [Act.put, List.setIfInBounds_toArray, List.set_cons_zero, List.set_cons_succ, i64_w, i32_w]
    rfl
  refine pure_ (i := 9) (N := some 42) (v := ?_) (a' := ?_) #[true, true, true, true, true, true, true, true, true, true, false, false, false, false, false, false, false, false, false, false, false, false, false] rfl rfl (by kernel_rfl) (fun _ _ _ h => h) (Or.inl ⟨by rfl, ?_⟩) ?_ ?_
  rotate_left
  · intro w'
    go_simp
    with_reducible rfl
  rotate_left
  · simp only [Act.put, List.setIfInBounds_toArray, List.set_cons_zero, List.set_cons_succ, i64_w, i32_w]
    rfl
  refine pure_ (i := 10) (N := some 43) (v := ?_) (a' := ?_) #[true, true, true, true, true, true, true, true, true, true, true, false, false, false, false, false, false, false, false, false, false, false, false] rfl rfl (by kernel_rfl) (fun _ _ _ h => h) (Or.inl ⟨by rfl, ?_⟩) ?_ ?_
  rotate_left
  · intro w'
    go_simp
    with_reducible rfl
  rotate_left
  · simp only [Act.put, List.setIfInBounds_toArray, List.set_cons_zero, List.set_cons_succ, i64_w, i32_w]
    rfl
  refine pure_ (i := 11) (N := some 44) (v := ?_) (a' := ?_) #[true, true, true, true, true, true, true, true, true, true, true, true, false, false, false, false, false, false, false, false, false, false, false] rfl rfl (by kernel_rfl) (fun _ _ _ h => h) (Or.inl ⟨by rfl, ?_⟩) ?_ ?_
  rotate_left
  · intro w'
    go_simp
    with_reducible rfl
  rotate_left
  · simp only [Act.put, List.setIfInBounds_toArray, List.set_cons_zero, List.set_cons_succ, i64_w, i32_w]
    rfl
  refine pure_ (i := 12) (N := some 45) (v := ?_) (a' := ?_) #[true, true, true, true, true, true, true, true, true, true, true, true, true, false, false, false, false, false, false, false, false, false, false] rfl rfl (by kernel_rfl) (fun _ _ _ h => h) (Or.inl ⟨by rfl, ?_⟩) ?_ ?_
  rotate_left
  · intro w'
    go_simp
    with_reducible rfl
  rotate_left
  · simp only [Act.put, List.setIfInBounds_toArray, List.set_cons_zero, List.set_cons_succ, i64_w, i32_w]
    rfl
  refine pure_ (i := 16) (N := some 49) (v := ?_) (a' := ?_) #[true, true, true, true, true, true, true, true, true, true, true, true, true, false, false, false, true, false, false, false, false, false, false] rfl rfl (by kernel_rfl) (fun _ _ _ h => h) (Or.inl ⟨by rfl, ?_⟩) ?_ ?_
  rotate_left
  · intro w'
    go_simp
    with_reducible rfl
  rotate_left
  · simp only [Act.put, List.setIfInBounds_toArray, List.set_cons_zero, List.set_cons_succ, i64_w, i32_w]
    rfl
  refine take_ (i := 13) (N := some 46) (v := ?_) (a' := ?_) #[true, true, true, true, true, true, true, true, true, true, true, true, true, true, false, false, true, false, false, false, false, false, false] rfl rfl (by kernel_rfl) (fun _ _ _ h => h) (Or.inl ⟨by rfl, ?_⟩) hHeld ?_ ?_
  rotate_left
  · rintro w' ⟨s0, s1, s2, s3, s4, s5, s6, s7, s8, s9⟩
    go_simp
    with_reducible rfl
  rotate_left
  · simp only [Act.put, List.setIfInBounds_toArray, List.set_cons_zero, List.set_cons_succ, i64_w, i32_w]
    rfl
  refine pure_ (i := 14) (N := some 47) (v := ?_) (a' := ?_) #[true, true, true, true, true, true, true, true, true, true, true, true, true, true, true, false, true, false, false, false, false, false, false] rfl rfl (by kernel_rfl) (fun _ _ _ h => h) (Or.inl ⟨by rfl, ?_⟩) ?_ ?_
  rotate_left
  · intro w'
    go_simp
    with_reducible rfl
  rotate_left
  · simp only [Act.put, List.setIfInBounds_toArray, List.set_cons_zero, List.set_cons_succ, i64_w, i32_w]
    rfl
  refine take_ (i := 15) (N := some 48) (v := ?_) (a' := ?_) #[true, true, true, true, true, true, true, true, true, true, true, true, true, true, true, true, true, false, false, false, false, false, false] rfl rfl (by kernel_rfl) (fun _ _ _ h => h) (Or.inl ⟨by rfl, ?_⟩) hHeld ?_ ?_
  rotate_left
  · rintro w' ⟨s0, s1, s2, s3, s4, s5, s6, s7, s8, s9⟩
    go_simp
    with_reducible rfl
  rotate_left
  · simp only [Act.put, List.setIfInBounds_toArray, List.set_cons_zero, List.set_cons_succ, i64_w, i32_w]
    rfl
  refine take_ (i := 17) (N := some 50) (v := ?_) (a' := ?_) #[true, true, true, true, true, true, true, true, true, true, true, true, true, true, true, true, true, true, false, false, false, false, false] rfl rfl (by kernel_rfl) (fun _ _ _ h => h) (Or.inl ⟨by rfl, ?_⟩) hHeld ?_ ?_
  rotate_left
  · rintro w' ⟨s0, s1, s2, s3, s4, s5, s6, s7, s8, s9⟩
    go_simp
    with_reducible rfl
  rotate_left
  · simp only [Act.put, List.setIfInBounds_toArray, List.set_cons_zero, List.set_cons_succ, i64_w, i32_w]
    rfl
  refine pure_ (i := 18) (N := some 51) (v := ?_) (a' := ?_) #[true, true, true, true, true, true, true, true, true, true, true, true, true, true, true, true, true, true, true, false, false, false, false] rfl rfl (by kernel_rfl) (fun _ _ _ h => h) (Or.inl ⟨by rfl, ?_⟩) ?_ ?_
  rotate_left
  · intro w'
    go_simp
    with_reducible rfl
  rotate_left
  · simp only [Act.put, List.setIfInBounds_toArray, List.set_cons_zero, List.set_cons_succ, i64_w, i32_w]
    rfl
  refine take_ (i := 19) (N := some 52) (v := ?_) (a' := ?_) #[true, true, true, true, true, true, true, true, true, true, true, true, true, true, true, true, true, true, true, true, false, false, false] rfl rfl (by kernel_rfl) (fun _ _ _ h => h) (Or.inl ⟨by rfl, ?_⟩) hHeld ?_ ?_
  rotate_left
  · rintro w' ⟨s0, s1, s2, s3, s4, s5, s6, s7, s8, s9⟩
    go_simp
    with_reducible rfl
  rotate_left
  · simp only [Act.put, List.setIfInBounds_toArray, List.set_cons_zero, List.set_cons_succ, i64_w, i32_w]
    rfl
  refine one_ (i := 20) (N := some 53) #[true, true, true, true, true, true, true, true, true, true, true, true, true, true, true, true, true, true, true, true, true, false, false] rfl rfl (by kernel_rfl) (by decide) (fun K hK => ?_)
  refine goes_ Tryd.func78 (by kernel_rfl) rfl #[.pointer (some ⟨hb_, 0, none⟩), .agg #[.int .i64 x.f0.f0, .bool x.f0.f1, .int .i64 x.f0.f2, .bool x.f1], .agg #[.int .i64 y.f0.f0, .bool y.f0.f1, .int .i64 y.f0.f2, .bool y.f1]] (by rfl) rfl rfl (by simp only [List.map_toArray, List.map_cons, List.map_nil]; rfl) ?_
  refine (sfield_calls hb_ l x y w5 (HL.out.below BE.out) HLL.out HC.out).mono ?_
  rintro e w6 ⟨rfl, hb6⟩
  have B6 := Aside0.mk (BE.out.trans (hb6.mono BE.out.size))
  refine ⟨_, rfl, ?_⟩
  refine hK.out _ _ ⟨(hb6.cell (World.block_lt_of_cell? w5 _ z03)).trans z03, (hb6.cell (World.block_lt_of_cell? w5 _ z13)).trans z13, (hb6.cell (World.block_lt_of_cell? w5 _ d0)).trans d0, (hb6.cell (World.block_lt_of_cell? w5 _ d1)).trans d1, (hb6.cell (World.block_lt_of_cell? w5 _ d2)).trans d2, (hb6.cell (World.block_lt_of_cell? w5 _ d3)).trans d3, (hb6.cell (World.block_lt_of_cell? w5 _ g0)).trans g0, (hb6.cell (World.block_lt_of_cell? w5 _ g1)).trans g1, (hb6.cell (World.block_lt_of_cell? w5 _ g2)).trans g2, (hb6.cell (World.block_lt_of_cell? w5 _ g3)).trans g3⟩ (fun hHeld => ?_)
  clear hK K
  refine norm_ (a' := ?_) ?_ ?_
  rotate_left
  · show Act.put _ (some 53) _ = _
    simp only [Act.put, List.setIfInBounds_toArray, List.set_cons_zero, List.set_cons_succ, i64_w, i32_w]
    rfl
  refine pure_ (i := 21) (N := some 54) (v := ?_) (a' := ?_) #[true, true, true, true, true, true, true, true, true, true, true, true, true, true, true, true, true, true, true, true, true, true, false] rfl rfl (by kernel_rfl) (fun _ _ _ h => h) (Or.inl ⟨by rfl, ?_⟩) ?_ ?_
  rotate_left
  · intro w'
    go_simp
    with_reducible rfl
  rotate_left
  · simp only [Act.put, List.setIfInBounds_toArray, List.set_cons_zero, List.set_cons_succ, i64_w, i32_w]
    rfl
  refine pure_ (i := 22) (N := some 6) (v := ?_) (a' := ?_) #[true, true, true, true, true, true, true, true, true, true, true, true, true, true, true, true, true, true, true, true, true, true, true] rfl rfl (by kernel_rfl) (fun _ _ _ h => h) (Or.inl ⟨by rfl, ?_⟩) ?_ ?_
  rotate_left
  · intro w'
    go_simp
    with_reducible rfl
  rotate_left
  · simp only [Act.put, List.setIfInBounds_toArray, List.set_cons_zero, List.set_cons_succ, i64_w, i32_w]
    rfl
  refine done_ (by kernel_rfl) ?_
  
  go_wp2_with fail
  go_ret
  exact ⟨by rw [EV.out]; rfl, B6.out⟩
set_option maxRecDepth 100000 in
set_option maxHeartbeats 8000000 in
theorem scomp_calls (hb_ : Nat) (l : List S62) (a : S51) (P1 : Option Addr) (p1 : Nat) (R1 : Option Addr) (r1 : Nat) (F1 : Option Addr) (f1 : Nat) (b : S51) (P2 : Option Addr) (p2 : Nat) (R2 : Option Addr) (r2 : Nat) (F2 : Option Addr) (f2 : Nat) (w : World) (hl : Ctx l hb_ w) (hll : (flat l).length ≤ 1048576) (hc : Clo l) (ha : CIn2 w a P1 R1 F1) (hb : CIn2 w b P2 R2 F2) :
    Calls Tryd.prog 63 #[.pointer (some ⟨hb_, 0, none⟩), .agg #[.int .i64 a.f0, .slice P1 a.f1.length p1, .slice R1 a.f2.length r1, .slice F1 a.f3.length f1], .agg #[.int .i64 b.f0, .slice P2 b.f1.length p2, .slice R2 b.f2.length r2, .slice F2 b.f3.length f2]] w fun e w' => e = .returned (.bool (compM l a b)) ∧ Below w.heap.size w w' := by
  by_cases k33 : a.f0 = 3 ∧ b.f0 = 3
  · exact scomp3_calls hb_ l a P1 p1 R1 r1 F1 f1 b P2 p2 R2 r2 F2 f2 w hl hll hc ha hb k33.1 k33.2
  have K33 := Aside0.mk k33
  clear k33
  have ba : Below w.heap.size w ((w.alloc (.cells #[.int .i64 a.f0, .slice P1 a.f1.length p1, .slice R1 a.f2.length r1, .slice F1 a.f3.length f1] 51)).alloc (.cells #[.int .i64 b.f0, .slice P2 b.f1.length p2, .slice R2 b.f2.length r2, .slice F2 b.f3.length f2] 51)) := ((Below.refl _ _).alloc (Nat.le_refl _) _).alloc (by simp) _
  have HL := Aside0.mk hl
  have HC := Aside0.mk hc
  have HLL := Aside0.mk hll
  have HA := Aside0.mk ha
  have HB := Aside0.mk hb
  have q0 : ((w.alloc (.cells #[.int .i64 a.f0, .slice P1 a.f1.length p1, .slice R1 a.f2.length r1, .slice F1 a.f3.length f1] 51)).alloc (.cells #[.int .i64 b.f0, .slice P2 b.f1.length p2, .slice R2 b.f2.length r2, .slice F2 b.f3.length f2] 51)).heap[w.heap.size]? = some (.cells #[.int .i64 a.f0, .slice P1 a.f1.length p1, .slice R1 a.f2.length r1, .slice F1 a.f3.length f1] 51 (0, 0)) := blk_alloc (blk_new w _) _
  have q1 : ((w.alloc (.cells #[.int .i64 a.f0, .slice P1 a.f1.length p1, .slice R1 a.f2.length r1, .slice F1 a.f3.length f1] 51)).alloc (.cells #[.int .i64 b.f0, .slice P2 b.f1.length p2, .slice R2 b.f2.length r2, .slice F2 b.f3.length f2] 51)).heap[w.heap.size + 1]? = some (.cells #[.int .i64 b.f0, .slice P2 b.f1.length p2, .slice R2 b.f2.length r2, .slice F2 b.f3.length f2] 51 (0, 0)) := by have h_ := blk_new (w.alloc (.cells #[.int .i64 a.f0, .slice P1 a.f1.length p1, .slice R1 a.f2.length r1, .slice F1 a.f3.length f1] 51)) (.cells #[.int .i64 b.f0, .slice P2 b.f1.length p2, .slice R2 b.f2.length r2, .slice F2 b.f3.length f2] 51); rw [World.size_alloc] at h_; exact h_
  clear hl hll hc ha hb
  go_enter Tryd.func63, Tryd.ntmps63
  have e0 : ∃ W, W = ((w.alloc (.cells #[.int .i64 a.f0, .slice P1 a.f1.length p1, .slice R1 a.f2.length r1, .slice F1 a.f3.length f1] 51)).alloc (.cells #[.int .i64 b.f0, .slice P2 b.f1.length p2, .slice R2 b.f2.length r2, .slice F2 b.f3.length f2] 51)) := ⟨_, rfl⟩
  by_cases hk : a.f0 = b.f0
  rotate_left
  · have EF : Aside0 (compM l a b = false) := ⟨by simp [compM, hk]⟩
    have e1 : (a.f0 != b.f0) = true := by simp [hk]
    go_wp2_with fail
    go_ret
    exact ⟨by rw [EF.out]; rfl, ba⟩
  have e1 : (a.f0 != b.f0) = false := by simp [hk]
  by_cases k1 : a.f0 = 1
  · have EV : Aside0 (compM l a b = (valsM l b.f1 a.f1 && valsM l a.f2 b.f2)) := ⟨by simp [compM, hk.symm, k1]⟩
    have kb1 : b.f0 = 1 := by omega
    have BA := Aside0.mk ba
    have Q := Aside0.mk (And.intro q0 q1)
    clear ba q0 q1 e0
    have a1 : (a.f0 == 1) = true := by simp [k1]
    clear k1 kb1 hk
    go_wp2_with fail
    refine (svals_calls hb_ l P2 p2 b.f1 P1 p1 a.f1 _ (HL.out.below BA.out) HLL.out HC.out (HB.out.below BA.out).p (HA.out.below BA.out).p HB.out.lp).mono ?_
    rintro e w2 ⟨rfl, hb⟩
    have B2 : Aside0 (Below w.heap.size w w2) := ⟨BA.out.trans (hb.mono BA.out.size)⟩
    have y02 : w2.cell? ⟨w.heap.size, 2, none⟩ = some (.slice R1 a.f2.length r1) := (blk_cell (blk_below Q.out.1 hb) 2).trans rfl
    have y12 : w2.cell? ⟨w.heap.size + 1, 2, none⟩ = some (.slice R2 b.f2.length r2) := (blk_cell (blk_below Q.out.2 hb) 2).trans rfl
    clear hb
    cases h1 : valsM l b.f1 a.f1 with
    | false =>
      rw [h1] at EV
      go_wp2_with fail
      go_ret
      exact ⟨by rw [EV.out]; rfl, B2.out⟩
    | true =>
      rw [h1] at EV
      go_wp2_with fail
      refine (svals_calls hb_ l R1 r1 a.f2 R2 r2 b.f2 w2 (HL.out.below B2.out) HLL.out HC.out (HA.out.below B2.out).r (HB.out.below B2.out).r HA.out.lr).mono ?_
      rintro e w3 ⟨rfl, hb⟩
      have B3 := Aside0.mk (B2.out.trans (hb.mono B2.out.size))
      clear hb
      go_wp2_with fail
      go_ret
      exact ⟨by rw [EV.out]; rfl, B3.out⟩
  · by_cases k2 : a.f0 = 2
    · have EV0 : Aside0 (compM l a b = (decide (b.f3.length ≤ a.f3.length) && (a.f3.zip b.f3).all fun p => fieldM l p.1 p.2)) := ⟨by simp [compM, hk.symm, k2]⟩
      have n1 : (a.f0 == 1) = false := by simp [k1]
      have n3 : (a.f0 == 3) = false := by simp [k2]
      have n2 : (a.f0 == 2) = true := by simp [k2]
      have BA := Aside0.mk ba
      have Q := Aside0.mk (And.intro q0 q1)
      clear ba q0 q1 e0 hk k1 k2
      by_cases hlen : b.f3.length ≤ a.f3.length
      rotate_left
      · have EF : Aside0 (compM l a b = false) := ⟨by rw [EV0.out]; simp; omega⟩
        have hl2 : (a.f3.length : Int) < (b.f3.length : Int) := by omega
        go_wp2_with fail
        go_ret
        exact ⟨by rw [EF.out]; rfl, BA.out⟩
      have EV : Aside0 (compM l a b = (a.f3.zip b.f3).all fun p => fieldM l p.1 p.2) := ⟨by rw [EV0.out]; simp [hlen]⟩
      have HLE := Aside0.mk hlen
      have hlb := HB.out.lf
      have hl2 : ¬ ((a.f3.length : Int) < (b.f3.length : Int)) := by omega
      go_wp2_with fail
      go_loopw [67] (fun i W => ∃ (k : Nat), i = .int .i64 k ∧ k ≤ b.f3.length ∧ ((a.f3.zip b.f3).take k).all (fun p => fieldM l p.1 p.2) = true ∧ (W.heap[w.heap.size]? = some (.cells #[.int .i64 a.f0, .slice P1 a.f1.length p1, .slice R1 a.f2.length r1, .slice F1 a.f3.length f1] 51 (0, 0)) ∧ W.heap[w.heap.size + 1]? = some (.cells #[.int .i64 b.f0, .slice P2 b.f1.length p2, .slice R2 b.f2.length r2, .slice F2 b.f3.length f2] 51 (0, 0))) ∧ Below w.heap.size w W) (fun i _ => b.f3.length - (intOf i).toNat)
      case atStart => exact ⟨0, rfl, Nat.zero_le _, by simp, Q.out, BA.out⟩
      case round =>
        clear Q BA
        obtain ⟨k, rfl, hkk, hall, hq, hbw⟩ := hrel
        have ALL := Aside0.mk hall
        have W0 := Aside0.mk hbw
        have Q0 := Aside0.mk hq
        have z03 : wr.cell? ⟨w.heap.size, 3, none⟩ = some (.slice F1 a.f3.length f1) := (blk_cell hq.1 3).trans rfl
        have z13 : wr.cell? ⟨w.heap.size + 1, 3, none⟩ = some (.slice F2 b.f3.length f2) := (blk_cell hq.2 3).trans rfl
        clear hall hbw hq
        have k0 : (0 : Int) ≤ (k : Int) := Int.natCast_nonneg k
        by_cases hlk : k < b.f3.length
        · obtain ⟨aa, ea, d0, d1, d2, d3⟩ := at_T118 HA.out.f (k : Int) k0 (by have := HLE.out; omega)
          obtain ⟨ab, eb, g0, g1, g2, g3⟩ := at_T118 HB.out.f (k : Int) k0 (by omega)
          subst ea
          subst eb
          have XA : Aside0 (a.f3[k]? = some (rd_T118 a.f3 (k : Int))) := ⟨rd_FT_at a.f3 k (by have := HLE.out; omega)⟩
          have XB : Aside0 (b.f3[k]? = some (rd_T118 b.f3 (k : Int))) := ⟨rd_FT_at b.f3 k hlk⟩
          obtain ⟨x, hx⟩ : ∃ x, x = rd_T118 a.f3 (k : Int) := ⟨_, rfl⟩
          obtain ⟨y, hy⟩ : ∃ y, y = rd_T118 b.f3 (k : Int) := ⟨_, rfl⟩
          rw [← hx] at d0 d1 d2 d3 XA
          rw [← hy] at g0 g1 g2 g3 XB
          clear hx hy
          simp only [Int.toNat_natCast] at d0 d1 d2 d3 g0 g1 g2 g3
          replace d0 := (W0.out.cell (World.block_lt_of_cell? w _ d0)).trans d0
          replace d1 := (W0.out.cell (World.block_lt_of_cell? w _ d1)).trans d1
          replace d2 := (W0.out.cell (World.block_lt_of_cell? w _ d2)).trans d2
          replace d3 := (W0.out.cell (World.block_lt_of_cell? w _ d3)).trans d3
          replace g0 := (W0.out.cell (World.block_lt_of_cell? w _ g0)).trans g0
          replace g1 := (W0.out.cell (World.block_lt_of_cell? w _ g1)).trans g1
          replace g2 := (W0.out.cell (World.block_lt_of_cell? w _ g2)).trans g2
          replace g3 := (W0.out.cell (World.block_lt_of_cell? w _ g3)).trans g3
          have kl : (k : Int) < (b.f3.length : Int) := by omega
          have ka : (k : Int) < (a.f3.length : Int) := by have := HLE.out; omega
          go_wp2_with fail
          refine start_ (n := 13) (S := fun w' => w'.cell? ⟨w.heap.size, 3, none⟩ = some (.slice (some aa) a.f3.length f1) ∧ w'.cell? ⟨w.heap.size + 1, 3, none⟩ = some (.slice (some ab) b.f3.length f2) ∧ w'.cell? (aa.add (k * 4)) = some (.int .i64 x.f0.f0) ∧ w'.cell? ⟨(aa.add (k * 4)).block, (aa.add (k * 4)).off + 1, none⟩ = some (.bool x.f0.f1) ∧ w'.cell? ⟨(aa.add (k * 4)).block, (aa.add (k * 4)).off + 2, none⟩ = some (.int .i64 x.f0.f2) ∧ w'.cell? ⟨(aa.add (k * 4)).block, (aa.add (k * 4)).off + 3, none⟩ = some (.bool x.f1) ∧ w'.cell? (ab.add (k * 4)) = some (.int .i64 y.f0.f0) ∧ w'.cell? ⟨(ab.add (k * 4)).block, (ab.add (k * 4)).off + 1, none⟩ = some (.bool y.f0.f1) ∧ w'.cell? ⟨(ab.add (k * 4)).block, (ab.add (k * 4)).off + 2, none⟩ = some (.int .i64 y.f0.f2) ∧ w'.cell? ⟨(ab.add (k * 4)).block, (ab.add (k * 4)).off + 3, none⟩ = some (.bool y.f1)) (ds := []) #[false, false, false, false, false, false, false, false, false, false, false, false, false] (by kernel_rfl) rfl rfl ⟨z03, z13, d0, d1, d2, d3, g0, g1, g2, g3⟩ (fun hHeld => ?_)
          have BE : Aside0 (Below w.heap.size w wr.drew) := ⟨W0.out.drew⟩
          have QD : Aside0 (wr.drew.heap[w.heap.size]? = some (.cells #[.int .i64 a.f0, .slice P1 a.f1.length p1, .slice R1 a.f2.length r1, .slice (some aa) a.f3.length f1] 51 (0, 0)) ∧ wr.drew.heap[w.heap.size + 1]? = some (.cells #[.int .i64 b.f0, .slice P2 b.f1.length p2, .slice R2 b.f2.length r2, .slice (some ab) b.f3.length f2] 51 (0, 0))) := ⟨Q0.out⟩
          replace z03 : wr.drew.cell? _ = _ := z03
          replace z13 : wr.drew.cell? _ = _ := z13
          replace d0 : wr.drew.cell? _ = _ := d0
          replace d1 : wr.drew.cell? _ = _ := d1
          replace d2 : wr.drew.cell? _ = _ := d2
          replace d3 : wr.drew.cell? _ = _ := d3
          replace g0 : wr.drew.cell? _ = _ := g0
          replace g1 : wr.drew.cell? _ = _ := g1
          replace g2 : wr.drew.cell? _ = _ := g2
          replace g3 : wr.drew.cell? _ = _ := g3
          generalize wr.drew = w5 at BE QD z03 z13 d0 d1 d2 d3 g0 g1 g2 g3 hHeld ⊢
          refine pure_ (i := 0) (N := some 70) (v := ?_) (a' := ?_) #[true, false, false, false, false, false, false, false, false, false, false, false, false] rfl rfl (by kernel_rfl) (fun _ _ _ h => h) (Or.inl ⟨by rfl, ?_⟩) ?_ ?_
          rotate_left
          · intro w'
            go_simp
            with_reducible rfl
          rotate_left
          · simp only [Act.put, List.setIfInBounds_toArray, List.set_cons_zero, List.set_cons_succ, i64_w, i32_w]
            rfl
          refine pure_ (i := 1) (N := some 71) (v := ?_) (a' := ?_) #[true, true, false, false, false, false, false, false, false, false, false, false, false] rfl rfl (by kernel_rfl) (fun _ _ _ h => h) (Or.inl ⟨by rfl, ?_⟩) ?_ ?_
          rotate_left
          · intro w'
            go_simp
            with_reducible rfl
          rotate_left
          · simp only [Act.put, List.setIfInBounds_toArray, List.set_cons_zero, List.set_cons_succ, i64_w, i32_w]
            rfl
          refine pure_ (i := 3) (N := some 73) (v := ?_) (a' := ?_) #[true, true, false, true, false, false, false, false, false, false, false, false, false] rfl rfl (by kernel_rfl) (fun _ _ _ h => h) (Or.inl ⟨by rfl, ?_⟩) ?_ ?_
          rotate_left
          · intro w'
            go_simp
            with_reducible rfl
          rotate_left
          · simp only [Act.put, List.setIfInBounds_toArray, List.set_cons_zero, List.set_cons_succ, i64_w, i32_w]
            rfl
          refine pure_ (i := 6) (N := some 76) (v := ?_) (a' := ?_) #[true, true, false, true, false, false, true, false, false, false, false, false, false] rfl rfl (by kernel_rfl) (fun _ _ _ h => h) (Or.inl ⟨by rfl, ?_⟩) ?_ ?_
          rotate_left
          · intro w'
            go_simp
            with_reducible rfl
          rotate_left
          · simp only [Act.put, List.setIfInBounds_toArray, List.set_cons_zero, List.set_cons_succ, i64_w, i32_w]
            rfl
          refine pure_ (i := 8) (N := some 78) (v := ?_) (a' := ?_) #[true, true, false, true, false, false, true, false, true, false, false, false, false] rfl rfl (by kernel_rfl) (fun _ _ _ h => h) (Or.inl ⟨by rfl, ?_⟩) ?_ ?_
          rotate_left
          · intro w'
            go_simp
            with_reducible rfl
          rotate_left
          · simp only [Act.put, List.setIfInBounds_toArray, List.set_cons_zero, List.set_cons_succ, i64_w, i32_w]
            rfl
          refine take_ (i := 2) (N := some 72) (v := ?_) (a' := ?_) #[true, true, true, true, false, false, true, false, true, false, false, false, false] rfl rfl (by kernel_rfl) (fun _ _ _ h => h) (Or.inl ⟨by rfl, ?_⟩) hHeld ?_ ?_
          rotate_left
          · rintro w' ⟨s0, s1, s2, s3, s4, s5, s6, s7, s8, s9⟩
            go_simp
            with_reducible rfl
          rotate_left
          · simp only [Act.put, List.setIfInBounds_toArray, List.set_cons_zero, List.set_cons_succ, i64_w, i32_w]
            rfl
          refine pure_ (i := 4) (N := some 74) (v := ?_) (a' := ?_) #[true, true, true, true, true, false, true, false, true, false, false, false, false] rfl rfl (by kernel_rfl) (fun _ _ _ h => h) (Or.inl ⟨by rfl, ?_⟩) ?_ ?_
          rotate_left
          · intro w'
            go_simp
            with_reducible rfl
          rotate_left
          · simp only [Act.put, List.setIfInBounds_toArray, List.set_cons_zero, List.set_cons_succ, i64_w, i32_w]
            rfl
          refine take_ (i := 5) (N := some 75) (v := ?_) (a' := ?_) #[true, true, true, true, true, true, true, false, true, false, false, false, false] rfl rfl (by kernel_rfl) (fun _ _ _ h => h) (Or.inl ⟨by rfl, ?_⟩) hHeld ?_ ?_
          rotate_left
          · rintro w' ⟨s0, s1, s2, s3, s4, s5, s6, s7, s8, s9⟩
            go_simp
            with_reducible rfl
          rotate_left
          · simp only [Act.put, List.setIfInBounds_toArray, List.set_cons_zero, List.set_cons_succ, i64_w, i32_w]
            rfl
          refine take_ (i := 7) (N := some 77) (v := ?_) (a' := ?_) #[true, true, true, true, true, true, true, true, true, false, false, false, false] rfl rfl (by kernel_rfl) (fun _ _ _ h => h) (Or.inl ⟨by rfl, ?_⟩) hHeld ?_ ?_
          rotate_left
          · rintro w' ⟨s0, s1, s2, s3, s4, s5, s6, s7, s8, s9⟩
            go_simp
            with_reducible rfl
          rotate_left
          · simp only [Act.put, List.setIfInBounds_toArray, List.set_cons_zero, List.set_cons_succ, i64_w, i32_w]
            rfl
          refine pure_ (i := 9) (N := some 79) (v := ?_) (a' := ?_) #[true, true, true, true, true, true, true, true, true, true, false, false, false] rfl rfl (by kernel_rfl) (fun _ _ _ h => h) (Or.inl ⟨by rfl, ?_⟩) ?_ ?_
          rotate_left
          · intro w'
            go_simp
            with_reducible rfl
          rotate_left
          · simp only [Act.put, List.setIfInBounds_toArray, List.set_cons_zero, List.set_cons_succ, i64_w, i32_w]
            rfl
          refine take_ (i := 10) (N := some 80) (v := ?_) (a' := ?_) #[true, true, true, true, true, true, true, true, true, true, true, false, false] rfl rfl (by kernel_rfl) (fun _ _ _ h => h) (Or.inl ⟨by rfl, ?_⟩) hHeld ?_ ?_
          rotate_left
          · rintro w' ⟨s0, s1, s2, s3, s4, s5, s6, s7, s8, s9⟩
            go_simp
            with_reducible rfl
          rotate_left
          · simp only [Act.put, List.setIfInBounds_toArray, List.set_cons_zero, List.set_cons_succ, i64_w, i32_w]
            rfl
          refine one_ (i := 11) (N := some 81) #[true, true, true, true, true, true, true, true, true, true, true, true, false] rfl rfl (by kernel_rfl) (by decide) (fun K hK => ?_)
          refine goes_ Tryd.func78 (by kernel_rfl) rfl #[.pointer (some ⟨hb_, 0, none⟩), .agg #[.int .i64 x.f0.f0, .bool x.f0.f1, .int .i64 x.f0.f2, .bool x.f1], .agg #[.int .i64 y.f0.f0, .bool y.f0.f1, .int .i64 y.f0.f2, .bool y.f1]] (by rfl) rfl rfl (by simp only [List.map_toArray, List.map_cons, List.map_nil]; rfl) ?_
          refine (sfield_calls hb_ l x y w5 (HL.out.below BE.out) HLL.out HC.out).mono ?_
          rintro e w6 ⟨rfl, hb6⟩
          have B6 := Aside0.mk (BE.out.trans (hb6.mono BE.out.size))
          have Q6 := Aside0.mk (And.intro (blk_below QD.out.1 hb6) (blk_below QD.out.2 hb6))
          refine ⟨_, rfl, ?_⟩
          refine hK.out _ _ ⟨(hb6.cell (World.block_lt_of_cell? w5 _ z03)).trans z03, (hb6.cell (World.block_lt_of_cell? w5 _ z13)).trans z13, (hb6.cell (World.block_lt_of_cell? w5 _ d0)).trans d0, (hb6.cell (World.block_lt_of_cell? w5 _ d1)).trans d1, (hb6.cell (World.block_lt_of_cell? w5 _ d2)).trans d2, (hb6.cell (World.block_lt_of_cell? w5 _ d3)).trans d3, (hb6.cell (World.block_lt_of_cell? w5 _ g0)).trans g0, (hb6.cell (World.block_lt_of_cell? w5 _ g1)).trans g1, (hb6.cell (World.block_lt_of_cell? w5 _ g2)).trans g2, (hb6.cell (World.block_lt_of_cell? w5 _ g3)).trans g3⟩ (fun hHeld => ?_)
          clear hK K
          refine norm_ (a' := ?_) ?_ ?_
          rotate_left
          · show Act.put _ (some 81) _ = _
            simp only [Act.put, List.setIfInBounds_toArray, List.set_cons_zero, List.set_cons_succ, i64_w, i32_w]
            rfl
          refine pure_ (i := 12) (N := some 82) (v := ?_) (a' := ?_) #[true, true, true, true, true, true, true, true, true, true, true, true, true] rfl rfl (by kernel_rfl) (fun _ _ _ h => h) (Or.inl ⟨by rfl, ?_⟩) ?_ ?_
          rotate_left
          · intro w'
            go_simp
            with_reducible rfl
          rotate_left
          · simp only [Act.put, List.setIfInBounds_toArray, List.set_cons_zero, List.set_cons_succ, i64_w, i32_w]
            rfl
          refine done_ (by kernel_rfl) ?_
          
          clear z03 z13 d0 d1 d2 d3 g0 g1 g2 g3
          cases hv : fieldM l x y with
          | false =>
            have EF : Aside0 (compM l a b = false) := ⟨by rw [EV.out]; exact zip_stop XA.out XB.out hv⟩
            clear hv
            go_wp2_with fail
            go_ret
            exact ⟨by rw [EF.out]; rfl, B6.out⟩
          | true =>
            have ES : Aside0 (((a.f3.zip b.f3).take (k + 1)).all (fun p => fieldM l p.1 p.2) = true) := ⟨by rw [zip_snoc XA.out XB.out, ALL.out, hv]; rfl⟩
            clear hv
            go_wp2_with fail
            go_roundw
            case rel => exact ⟨k + 1, by go_num, by omega, ES.out, Q6.out, B6.out⟩
            case measure => simp [intOf]; omega
        · obtain rfl : k = b.f3.length := by omega
          have EF : Aside0 (compM l a b = true) := ⟨by
            have h := ALL.out
            rw [List.take_of_length_le (by rw [List.length_zip]; omega)] at h
            rw [EV.out]; exact h⟩
          clear hkk hlk
          go_wp2_with fail
          go_ret
          exact ⟨by rw [EF.out]; rfl, W0.out⟩
    · by_cases k3 : a.f0 = 3
      rotate_left
      · have EF : Aside0 (compM l a b = false) := ⟨by simp [compM, hk.symm, k1, k2, k3]⟩
        have n1 : (a.f0 == 1) = false := by simp [k1]
        have n2 : (a.f0 == 2) = false := by simp [k2]
        have n3 : (a.f0 == 3) = false := by simp [k3]
        clear hk k1 k2 k3
        go_wp2_with fail
        go_ret
        exact ⟨by rw [EF.out]; rfl, ba⟩
      · exact absurd ⟨k3, hk.symm.trans k3⟩ K33.out
theorem tyAt_mem {l : List S62} {n : Int} (n0 : 0 ≤ n) (n1 : n < ((flat l).length : Int)) : tyAt l n ∈ flat l := by
  unfold tyAt rd_T53
  rw [List.getD_eq_getElem?_getD, List.getElem?_eq_getElem (by omega)]
  exact List.getElem_mem _
/-- Each type of a list is of no great bulk. -/
def Lean1 (l : List S62) : Prop := ∀ s ∈ flat l, wS s ≤ 1048576
theorem cin2_ctx {w : World} {s : S53} (hs : wS s ≤ 1048576) {A3 A4 A5 : Option Addr} (r3 : Kd.C k74 w A3 s.f2.f1.length s.f2.f1) (r4 : Kd.C k74 w A4 s.f2.f2.length s.f2.f2) (r5 : Kd.C k118 w A5 s.f2.f3.length s.f2.f3) : CIn2 w s.f2 A3 A4 A5 := by
  unfold wS at hs
  exact ⟨r3, r4, r5, by omega, by omega, by omega⟩
set_option maxRecDepth 100000 in
set_option maxHeartbeats 8000000 in
theorem sdecl_calls (cb : Nat) (l : List S62) (n : Int) (w : World) (hctx : Ctx l cb w) (hll : (flat l).length ≤ 1048576) (hc : Clo l) (hws : Lean1 l) (n0 : 0 ≤ n) (n1 : n < ((flat l).length : Int)) (hd : Down l n) :
    Calls Tryd.prog 62 #[.pointer (some ⟨cb, 0, none⟩), .int .i64 n] w fun e w' => e = .returned (.int .i64 (declM l n)) ∧ Below w.heap.size w w' := by
  have HX := Aside0.mk hctx
  have HLL := Aside0.mk hll
  have HC := Aside0.mk hc
  have HWS := Aside0.mk hws
  have HD := Aside0.mk hd
  have N01 := Aside0.mk (And.intro n0 n1)
  obtain ⟨L, Ai, ci, Aa, ca, I, h1, _, _, _, h5, _⟩ := hctx.ex
  have x2 : w.cell? ⟨cb, 2, none⟩ = some (.slice Aa (flat l).length ca) := (blk_cell h1 2).trans rfl
  obtain ⟨ae, A1, c1, A3, c3, A4, c4, A5, c5, ea, d0, d1, d2, d3, d4, d5, m1, r1, m3, r3, m4, r4, m5, r5⟩ := at_T53 h5 n n0 n1
  subst ea
  have H5 := Aside0.mk h5
  obtain ⟨s, hs⟩ : ∃ s, s = tyAt l n := ⟨_, rfl⟩
  have hs' : rd_T53 (flat l) n = s := hs.symm
  rw [hs'] at d0 d1 d2 d3 d4 d5 m1 r1 m3 r3 m4 r4 m5 r5
  have hsw : wS s ≤ 1048576 := hws s (by rw [hs]; exact tyAt_mem n0 n1)
  have CI := Aside0.mk (cin2_ctx hsw r3 r4 r5)
  have hsl : s.f1.length ≤ 1048576 := by unfold wS at hsw; omega
  have HS := Aside0.mk hs
  have R1 := Aside0.mk r1
  obtain ⟨W2, hW2⟩ : ∃ W2, W2 = (w.alloc (.cells #[.bool s.f0, .slice A1 s.f1.length c1, .int .i64 s.f2.f0, .slice A3 s.f2.f1.length c3, .slice A4 s.f2.f2.length c4, .slice A5 s.f2.f3.length c5] 53)) := ⟨_, rfl⟩
  have B2 : Aside0 (Below w.heap.size w W2) := ⟨by rw [hW2]; exact (Below.refl _ _).alloc (Nat.le_refl _) _⟩
  have Q2 : Aside0 (W2.heap[w.heap.size]? = some (.cells #[.bool s.f0, .slice A1 s.f1.length c1, .int .i64 s.f2.f0, .slice A3 s.f2.f1.length c3, .slice A4 s.f2.f2.length c4, .slice A5 s.f2.f3.length c5] 53 (0, 0))) := ⟨by rw [hW2]; exact blk_new w _⟩
  obtain ⟨m, hm⟩ : ∃ m, m = (flat l).length := ⟨_, rfl⟩
  have HM := Aside0.mk hm
  rw [← hm] at x2 n1
  clear hctx hll hc hws hd h1 h5 hs hs' hsw r1 r3 r4 r5 m1 m3 m4 m5 hm
  go_enter Tryd.func62, Tryd.ntmps62
  go_wp2_with fail
  rw [← hW2]
  clear hW2 d0 d1 d2 d3 d4 d5
  replace x2 := (B2.out.cell (World.block_lt_of_cell? w _ x2)).trans x2
  go_loopw [19] (fun i W => ∃ (k : Nat), i = .int .i64 k ∧ k ≤ s.f1.length ∧ (∀ y ∈ s.f1.take k, y < n) ∧ W = W2) (fun i _ => s.f1.length - (intOf i).toNat)
  case atStart => exact ⟨0, rfl, Nat.zero_le _, (fun y hy => by simp at hy), rfl⟩
  case round =>
    obtain ⟨k, rfl, hk, hall, rfl⟩ := hrel
    have ALL := Aside0.mk hall
    clear hall
    have k0 : (0 : Int) ≤ (k : Int) := Int.natCast_nonneg k
    have z1 : wr.cell? ⟨w.heap.size, 1, none⟩ = some (.slice A1 s.f1.length c1) := (blk_cell Q2.out 1).trans rfl
    by_cases hlk : k < s.f1.length
    · obtain ⟨ai, y, eA, hy, hcy⟩ := at_int' R1.out k hlk
      subst eA
      replace hcy := (B2.out.cell (World.block_lt_of_cell? w _ hcy)).trans hcy
      have YM := Aside0.mk hy
      have kl : (k : Int) < (s.f1.length : Int) := by omega
      clear hy
      by_cases hyn : n ≤ y
      · have ED : Aside0 (declM l n = 50) := ⟨by unfold declM; rw [← HS.out, if_pos ⟨y, List.mem_of_getElem? YM.out, hyn⟩]⟩
        go_wp2_with fail
        go_ret
        exact ⟨by rw [ED.out]; rfl, B2.out⟩
      · go_wp2_with fail
        go_roundw
        case rel => exact ⟨k + 1, by go_num, by omega, (fun z hz => by rw [List.take_add_one, YM.out] at hz; rcases List.mem_append.1 hz with h | h; (· exact ALL.out z h); (· simp at h; omega)), trivial⟩
        case measure => simp [intOf]; omega
    · obtain rfl : k = s.f1.length := by omega
      have NOT : Aside0 (¬ ∃ h ∈ s.f1, n ≤ h) := ⟨by
        rintro ⟨h, hh, hn⟩
        have := ALL.out h (by rw [List.take_length]; exact hh)
        omega⟩
      have ED0 := Aside0.mk (show declM l n = _ from by unfold declM; rw [← HS.out, if_neg NOT.out])
      clear hk hlk
      by_cases hl1 : 1 < s.f1.length
      · have ED : Aside0 (declM l n = 1) := ⟨by rw [ED0.out, if_pos hl1]⟩
        have hl1' : (1 : Int) < (s.f1.length : Int) := by omega
        go_wp2_with fail
        go_ret
        exact ⟨by rw [ED.out]; rfl, B2.out⟩
      · have ED1 := Aside0.mk (ED0.out.trans (if_neg hl1))
        have hl1' : ¬ (1 : Int) < (s.f1.length : Int) := by omega
        rcases hz : s.f1 with _ | ⟨o, t⟩
        · have ED : Aside0 (declM l n = 0) := ⟨by rw [ED1.out, hz]⟩
          rw [hz] at z1
          go_wp2_with fail
          go_ret
          exact ⟨by rw [ED.out]; rfl, B2.out⟩
        · have ht : t = [] := by rw [hz] at hl1; cases t with | nil => rfl | cons u t => exact absurd (by simp) hl1
          subst ht
          have oin := tyAt_supers HC.out N01.out.1 N01.out.2 o (by rw [← HS.out, hz]; simp)
          have on : o < n := ALL.out o (by rw [List.take_length, hz]; simp)
          have OI := Aside0.mk oin
          have EDO := ED1.out
          rw [hz] at EDO
          dsimp only at EDO
          have ED2 := Aside0.mk EDO
          obtain ⟨ai, y, eA, hy, hcy⟩ := at_int' R1.out 0 (by rw [hz]; simp)
          obtain rfl : o = y := by rw [hz] at hy; simpa using hy
          have e_ : ai.add 0 = ai := (by simp [Addr.add])
          rw [e_] at hcy
          subst eA
          replace hcy := (B2.out.cell (World.block_lt_of_cell? w _ hcy)).trans hcy
          rw [hz] at z1
          have HZ := Aside0.mk hz
          obtain ⟨ao, E1, d1, E3, d3, E4, d4, E5, d5, eo, g0, g1, g2, g3, g4, g5, n1, t1, n3, t3, n4, t4, n5, t5⟩ := at_T53 H5.out o oin.1 oin.2
          injection eo with eo
          subst eo
          obtain ⟨so, hso⟩ : ∃ so, so = tyAt l o := ⟨_, rfl⟩
          have hso' : rd_T53 (flat l) o = so := hso.symm
          rw [hso'] at g0 g1 g2 g3 g4 g5 t3 t4 t5
          have CO := Aside0.mk (cin2_ctx (HWS.out so (by rw [hso]; exact tyAt_mem oin.1 oin.2)) t3 t4 t5)
          have HSO := Aside0.mk hso
          have o0 : 0 ≤ o := oin.1
          have o1 : o < (m : Int) := by rw [HM.out]; exact oin.2
          replace g0 := (B2.out.cell (World.block_lt_of_cell? w _ g0)).trans g0
          replace g2 := (B2.out.cell (World.block_lt_of_cell? w _ g2)).trans g2
          replace g3 := (B2.out.cell (World.block_lt_of_cell? w _ g3)).trans g3
          replace g4 := (B2.out.cell (World.block_lt_of_cell? w _ g4)).trans g4
          replace g5 := (B2.out.cell (World.block_lt_of_cell? w _ g5)).trans g5
          clear hy e_ EDO ED1 ED0 hl1 hl1' hz on oin n1 n3 n4 n5 t1 t3 t4 t5 hso hso' g1
          cases hf : so.f0 with
          | true =>
            have ED : Aside0 (declM l n = 70) := ⟨by rw [ED2.out, ← HSO.out, if_pos hf]⟩
            rw [hf] at g0
            clear hf
            go_wp2_with fail
            go_ret
            exact ⟨by rw [ED.out]; rfl, B2.out⟩
          | false =>
            have ED3 : Aside0 (declM l n = _) := ⟨by rw [ED2.out, ← HSO.out, if_neg (by rw [hf]; simp)]⟩
            rw [hf] at g0
            have KD := sdepth_calls l HC.out cb o wr (HX.out.below B2.out) HLL.out OI.out.1 OI.out.2
            clear hf
            go_wp2_with fail
            refine KD.mono ?_
            rintro e w5 ⟨rfl, hb5⟩
            have B5 := Aside0.mk (B2.out.trans (hb5.mono B2.out.size))
            have Q5 := Aside0.mk (blk_below Q2.out hb5)
            replace x2 := (hb5.cell (World.block_lt_of_cell? wr _ x2)).trans x2
            replace g2 := (hb5.cell (World.block_lt_of_cell? wr _ g2)).trans g2
            replace g3 := (hb5.cell (World.block_lt_of_cell? wr _ g3)).trans g3
            replace g4 := (hb5.cell (World.block_lt_of_cell? wr _ g4)).trans g4
            replace g5 := (hb5.cell (World.block_lt_of_cell? wr _ g5)).trans g5
            clear hb5 KD z1 hcy g0
            by_cases hdp : 63 ≤ depthM l o
            · have ED : Aside0 (declM l n = 72) := ⟨by rw [ED3.out, if_pos hdp]⟩
              go_wp2_with fail
              go_ret
              exact ⟨by rw [ED.out]; rfl, B5.out⟩
            have ED4 : Aside0 (declM l n = _) := ⟨ED3.out.trans (if_neg hdp)⟩
            have u2 : w5.cell? ⟨w.heap.size, 2, none⟩ = some (.int .i64 s.f2.f0) := (blk_cell Q5.out 2).trans rfl
            have u3 : w5.cell? ⟨w.heap.size, 3, none⟩ = some (.slice A3 s.f2.f1.length c3) := (blk_cell Q5.out 3).trans rfl
            have u4 : w5.cell? ⟨w.heap.size, 4, none⟩ = some (.slice A4 s.f2.f2.length c4) := (blk_cell Q5.out 4).trans rfl
            have u5 : w5.cell? ⟨w.heap.size, 5, none⟩ = some (.slice A5 s.f2.f3.length c5) := (blk_cell Q5.out 5).trans rfl
            go_wp2_with fail
            refine start_ (n := 14) (S := fun w' => w'.cell? ⟨w.heap.size, 2, none⟩ = some (.int .i64 s.f2.f0) ∧ w'.cell? ⟨w.heap.size, 3, none⟩ = some (.slice A3 s.f2.f1.length c3) ∧ w'.cell? ⟨w.heap.size, 4, none⟩ = some (.slice A4 s.f2.f2.length c4) ∧ w'.cell? ⟨w.heap.size, 5, none⟩ = some (.slice A5 s.f2.f3.length c5) ∧ w'.cell? ⟨cb, 2, none⟩ = some (.slice (some ae) m ca) ∧ w'.cell? ⟨(ae.add (o.toNat * 6)).block, (ae.add (o.toNat * 6)).off + 2, none⟩ = some (.int .i64 so.f2.f0) ∧ w'.cell? ⟨(ae.add (o.toNat * 6)).block, (ae.add (o.toNat * 6)).off + 3, none⟩ = some (.slice E3 so.f2.f1.length d3) ∧ w'.cell? ⟨(ae.add (o.toNat * 6)).block, (ae.add (o.toNat * 6)).off + 4, none⟩ = some (.slice E4 so.f2.f2.length d4) ∧ w'.cell? ⟨(ae.add (o.toNat * 6)).block, (ae.add (o.toNat * 6)).off + 5, none⟩ = some (.slice E5 so.f2.f3.length d5)) (ds := []) #[false, false, false, false, false, false, false, false, false, false, false, false, false, false] (by kernel_rfl) rfl rfl ⟨u2, u3, u4, u5, x2, g2, g3, g4, g5⟩ (fun hHeld => ?_)
            have B6 : Aside0 (Below w.heap.size w w5.drew) := ⟨B5.out.drew⟩
            replace u2 : w5.drew.cell? _ = _ := u2
            replace u3 : w5.drew.cell? _ = _ := u3
            replace u4 : w5.drew.cell? _ = _ := u4
            replace u5 : w5.drew.cell? _ = _ := u5
            replace x2 : w5.drew.cell? _ = _ := x2
            replace g2 : w5.drew.cell? _ = _ := g2
            replace g3 : w5.drew.cell? _ = _ := g3
            replace g4 : w5.drew.cell? _ = _ := g4
            replace g5 : w5.drew.cell? _ = _ := g5
            generalize w5.drew = w6 at B6 u2 u3 u4 u5 x2 g2 g3 g4 g5 hHeld ⊢
            refine pure_ (i := 0) (N := some 56) (v := ?_) (a' := ?_) #[true, false, false, false, false, false, false, false, false, false, false, false, false, false] rfl rfl (by kernel_rfl) (fun _ _ _ h => h) (Or.inl ⟨by rfl, ?_⟩) ?_ ?_
            rotate_left
            · intro w'
              go_simp
              with_reducible rfl
            rotate_left
            · simp only [Act.put, List.setIfInBounds_toArray, List.set_cons_zero, List.set_cons_succ, i64_w, i32_w]
              rfl
            refine pure_ (i := 1) (N := some 57) (v := ?_) (a' := ?_) #[true, true, false, false, false, false, false, false, false, false, false, false, false, false] rfl rfl (by kernel_rfl) (fun _ _ _ h => h) (Or.inl ⟨by rfl, ?_⟩) ?_ ?_
            rotate_left
            · intro w'
              go_simp
              with_reducible rfl
            rotate_left
            · simp only [Act.put, List.setIfInBounds_toArray, List.set_cons_zero, List.set_cons_succ, i64_w, i32_w]
              rfl
            refine pure_ (i := 3) (N := some 59) (v := ?_) (a' := ?_) #[true, true, false, true, false, false, false, false, false, false, false, false, false, false] rfl rfl (by kernel_rfl) (fun _ _ _ h => h) (Or.inl ⟨by rfl, ?_⟩) ?_ ?_
            rotate_left
            · intro w'
              go_simp
              with_reducible rfl
            rotate_left
            · simp only [Act.put, List.setIfInBounds_toArray, List.set_cons_zero, List.set_cons_succ, i64_w, i32_w]
              rfl
            refine pure_ (i := 4) (N := some 60) (v := ?_) (a' := ?_) #[true, true, false, true, true, false, false, false, false, false, false, false, false, false] rfl rfl (by kernel_rfl) (fun _ _ _ h => h) (Or.inl ⟨by rfl, ?_⟩) ?_ ?_
            rotate_left
            · intro w'
              go_simp
              with_reducible rfl
            rotate_left
            · simp only [Act.put, List.setIfInBounds_toArray, List.set_cons_zero, List.set_cons_succ, i64_w, i32_w]
              rfl
            refine pure_ (i := 5) (N := some 61) (v := ?_) (a' := ?_) #[true, true, false, true, true, true, false, false, false, false, false, false, false, false] rfl rfl (by kernel_rfl) (fun _ _ _ h => h) (Or.inl ⟨by rfl, ?_⟩) ?_ ?_
            rotate_left
            · intro w'
              go_simp
              with_reducible rfl
            rotate_left
            · simp only [Act.put, List.setIfInBounds_toArray, List.set_cons_zero, List.set_cons_succ, i64_w, i32_w]
              rfl
            refine pure_ (i := 7) (N := some 63) (v := ?_) (a' := ?_) #[true, true, false, true, true, true, false, true, false, false, false, false, false, false] rfl rfl (by kernel_rfl) (fun _ _ _ h => h) (Or.inl ⟨by rfl, ?_⟩) ?_ ?_
            rotate_left
            · intro w'
              go_simp
              with_reducible rfl
            rotate_left
            · simp only [Act.put, List.setIfInBounds_toArray, List.set_cons_zero, List.set_cons_succ, i64_w, i32_w]
              rfl
            refine take_ (i := 2) (N := some 58) (v := ?_) (a' := ?_) #[true, true, true, true, true, true, false, true, false, false, false, false, false, false] rfl rfl (by kernel_rfl) (fun _ _ _ h => h) (Or.inl ⟨by rfl, ?_⟩) hHeld ?_ ?_
            rotate_left
            · rintro w' ⟨s0, s1, s2, s3, s4, s5, s6, s7, s8⟩
              go_simp
              with_reducible rfl
            rotate_left
            · simp only [Act.put, List.setIfInBounds_toArray, List.set_cons_zero, List.set_cons_succ, i64_w, i32_w]
              rfl
            refine take_ (i := 6) (N := some 62) (v := ?_) (a' := ?_) #[true, true, true, true, true, true, true, true, false, false, false, false, false, false] rfl rfl (by kernel_rfl) (fun _ _ _ h => h) (Or.inl ⟨by rfl, ?_⟩) hHeld ?_ ?_
            rotate_left
            · rintro w' ⟨s0, s1, s2, s3, s4, s5, s6, s7, s8⟩
              go_simp
              with_reducible rfl
            rotate_left
            · simp only [Act.put, List.setIfInBounds_toArray, List.set_cons_zero, List.set_cons_succ, i64_w, i32_w]
              rfl
            refine pure_ (i := 8) (N := some 64) (v := ?_) (a' := ?_) #[true, true, true, true, true, true, true, true, true, false, false, false, false, false] rfl rfl (by kernel_rfl) (fun _ _ _ h => h) (Or.inl ⟨by rfl, ?_⟩) ?_ ?_
            rotate_left
            · intro w'
              go_simp
              with_reducible rfl
            rotate_left
            · simp only [Act.put, List.setIfInBounds_toArray, List.set_cons_zero, List.set_cons_succ, i64_w, i32_w]
              rfl
            refine pure_ (i := 9) (N := some 65) (v := ?_) (a' := ?_) #[true, true, true, true, true, true, true, true, true, true, false, false, false, false] rfl rfl (by kernel_rfl) (fun _ _ _ h => h) (Or.inl ⟨by rfl, ?_⟩) ?_ ?_
            rotate_left
            · intro w'
              go_simp
              with_reducible rfl
            rotate_left
            · simp only [Act.put, List.setIfInBounds_toArray, List.set_cons_zero, List.set_cons_succ, i64_w, i32_w]
              rfl
            refine take_ (i := 10) (N := some 66) (v := ?_) (a' := ?_) #[true, true, true, true, true, true, true, true, true, true, true, false, false, false] rfl rfl (by kernel_rfl) (fun _ _ _ h => h) (Or.inl ⟨by rfl, ?_⟩) hHeld ?_ ?_
            rotate_left
            · rintro w' ⟨s0, s1, s2, s3, s4, s5, s6, s7, s8⟩
              go_simp
              with_reducible rfl
            rotate_left
            · simp only [Act.put, List.setIfInBounds_toArray, List.set_cons_zero, List.set_cons_succ, i64_w, i32_w]
              rfl
            refine one_ (i := 11) (N := some 67) #[true, true, true, true, true, true, true, true, true, true, true, true, false, false] rfl rfl (by kernel_rfl) (by decide) (fun K hK => ?_)
            refine goes_ Tryd.func63 (by kernel_rfl) rfl #[.pointer (some ⟨cb, 0, none⟩), .agg #[.int .i64 s.f2.f0, .slice A3 s.f2.f1.length c3, .slice A4 s.f2.f2.length c4, .slice A5 s.f2.f3.length c5], .agg #[.int .i64 so.f2.f0, .slice E3 so.f2.f1.length d3, .slice E4 so.f2.f2.length d4, .slice E5 so.f2.f3.length d5]] (by rfl) rfl rfl (by simp only [List.map_toArray, List.map_cons, List.map_nil]; rfl) ?_
            refine (scomp_calls cb l s.f2 A3 c3 A4 c4 A5 c5 so.f2 E3 d3 E4 d4 E5 d5 w6 (HX.out.below B6.out) HLL.out HC.out (CI.out.below B6.out) (CO.out.below B6.out)).mono ?_
            rintro e w7 ⟨rfl, hb7⟩
            have B7 := Aside0.mk (B6.out.trans (hb7.mono B6.out.size))
            refine ⟨_, rfl, ?_⟩
            refine hK.out _ _ ⟨(hb7.cell (World.block_lt_of_cell? w6 _ u2)).trans u2, (hb7.cell (World.block_lt_of_cell? w6 _ u3)).trans u3, (hb7.cell (World.block_lt_of_cell? w6 _ u4)).trans u4, (hb7.cell (World.block_lt_of_cell? w6 _ u5)).trans u5, (hb7.cell (World.block_lt_of_cell? w6 _ x2)).trans x2, (hb7.cell (World.block_lt_of_cell? w6 _ g2)).trans g2, (hb7.cell (World.block_lt_of_cell? w6 _ g3)).trans g3, (hb7.cell (World.block_lt_of_cell? w6 _ g4)).trans g4, (hb7.cell (World.block_lt_of_cell? w6 _ g5)).trans g5⟩ (fun hHeld => ?_)
            clear hK K
            refine norm_ (a' := ?_) ?_ ?_
            rotate_left
            · show Act.put _ (some 67) _ = _
              simp only [Act.put, List.setIfInBounds_toArray, List.set_cons_zero, List.set_cons_succ, i64_w, i32_w]
              rfl
            refine pure_ (i := 12) (N := some 68) (v := ?_) (a' := ?_) #[true, true, true, true, true, true, true, true, true, true, true, true, true, false] rfl rfl (by kernel_rfl) (fun _ _ _ h => h) (Or.inl ⟨by rfl, ?_⟩) ?_ ?_
            rotate_left
            · intro w'
              go_simp
              with_reducible rfl
            rotate_left
            · simp only [Act.put, List.setIfInBounds_toArray, List.set_cons_zero, List.set_cons_succ, i64_w, i32_w]
              rfl
            refine pure_ (i := 13) (N := some 55) (v := ?_) (a' := ?_) #[true, true, true, true, true, true, true, true, true, true, true, true, true, true] rfl rfl (by kernel_rfl) (fun _ _ _ h => h) (Or.inl ⟨by rfl, ?_⟩) ?_ ?_
            rotate_left
            · intro w'
              go_simp
              with_reducible rfl
            rotate_left
            · simp only [Act.put, List.setIfInBounds_toArray, List.set_cons_zero, List.set_cons_succ, i64_w, i32_w]
              rfl
            refine done_ (by kernel_rfl) ?_
            
            clear u2 u3 u4 u5 x2 g2 g3 g4 g5
            cases hcm : compM l s.f2 so.f2 with
            | true =>
              have ED : Aside0 (declM l n = 0) := ⟨by rw [ED4.out, if_pos hcm]⟩
              clear hcm
              go_wp2_with fail
              go_ret
              exact ⟨by rw [ED.out]; rfl, B7.out⟩
            | false =>
              have ED : Aside0 (declM l n = 71) := ⟨by rw [ED4.out, if_neg (by rw [hcm]; simp)]⟩
              clear hcm
              go_wp2_with fail
              go_ret
              exact ⟨by rw [ED.out]; rfl, B7.out⟩
theorem LA.lean1 {w : World} {A : Option Addr} {c : Nat} {l : List S62} (h : LA w A c l) : Lean1 l := by
  intro s hs
  unfold flat at hs
  obtain ⟨r, hr, hs⟩ := List.mem_flatMap.1 hs
  have h1 := wS_le_wG hs
  have h2 := wG_le_wL hr
  have h3 := h.w
  omega
theorem LA.closed {w : World} {A : Option Addr} {c : Nat} {l : List S62} (hl : LA w A c l) :
    Calls Tryd.prog 25 #[.slice A l.length c] w fun e w' => (∃ (n : Int) (er : Int), e = .returned (.tuple #[.int .i64 n, .int .i64 er]) ∧ CloOut l n er) ∧ Below w.heap.size w w' := by
  have hw := hl.w
  have htc := tcount_le_wL l
  exact closed_calls2 A c l w hl.C hl.cap (by omega) (by omega) (sok_all (by omega))
set_option maxRecDepth 100000 in
set_option maxHeartbeats 4000000 in
theorem SDecl_yes (A : Option Addr) (c : Nat) (l : List S62) (w : World) (hl : LA w A c l) (hc : Clo l) (htab : Lib.TabBelow Tryd.prog w.heap.size w "internal/strconv.uint64pow10" .u64 Lib.pow10Tab) :
    Calls Tryd.prog 35 #[.slice A l.length c] w fun e w' => ∃ n er, e = .returned (.tuple #[.int .i64 n, .int .i64 er]) ∧ DeclOut l n er ∧ Below w.heap.size w w' := by
  have HL := Aside0.mk hl
  have HC := Aside0.mk hc
  have HT := Aside0.mk htab
  have HLW := Aside0.mk hl.lean1
  have hll := hl.flat_le
  have HLL := Aside0.mk hll
  obtain ⟨m, hm⟩ : ∃ m, m = (flat l).length := ⟨_, rfl⟩
  have HM := Aside0.mk hm
  rw [← hm] at hll
  have K := hl.closed
  clear hl hc hm htab
  go_enter Tryd.func35, Tryd.ntmps35
  go_wp2_with fail
  refine K.mono ?_
  rintro e w1 ⟨⟨n0, e0, rfl, ho⟩, hb⟩
  obtain ⟨rfl, rfl⟩ := ho.yes HC.out
  have B1 := Aside0.mk hb
  clear hb K ho
  go_wp2_with fail
  refine (opened_calls A c l w1 (HL.out.below B1.out) (tab_mono (HT.out.on B1.out) B1.out.size)).mono ?_
  rintro e w2 ⟨hb, ⟨_, rfl, hx⟩ | ⟨hn, _⟩⟩
  rotate_left
  · exact absurd HC.out hn
  have B2 := Aside0.mk (B1.out.trans (hb.mono B1.out.size))
  obtain ⟨cb, hcb⟩ : ∃ cb, cb = w1.heap.size := ⟨_, rfl⟩
  rw [← hcb] at hx ⊢
  have X2 := Aside0.mk hx
  obtain ⟨L, Ai, ci, Aa, ca, I, h1, _, _, _, h5, _⟩ := hx.ex
  have x2 : w2.cell? ⟨cb, 2, none⟩ = some (.slice Aa (flat l).length ca) := (blk_cell h1 2).trans rfl
  rw [← HM.out] at x2
  clear hb hx h1 h5 hcb
  go_wp2_with fail
  go_loopw [29] (fun i W => ∃ (k : Nat), i = .int .i64 k ∧ k ≤ m ∧ (∀ q : Int, 0 ≤ q → q < (k : Int) → declM l q = 0) ∧ Below w2.heap.size w2 W) (fun i _ => m - (intOf i).toNat)
  case atStart => exact ⟨0, rfl, Nat.zero_le _, (fun q h0 h1 => by omega), Below.refl _ _⟩
  case round =>
    obtain ⟨k, rfl, hk, hall, hbw⟩ := hrel
    have ALL := Aside0.mk hall
    have W0 := Aside0.mk hbw
    have k0 : (0 : Int) ≤ (k : Int) := Int.natCast_nonneg k
    clear hall hbw
    by_cases hlk : k < m
    · have kl : (k : Int) < (m : Int) := by omega
      have KD := sdecl_calls cb l (k : Int) wr (X2.out.below W0.out) HLL.out HC.out HLW.out k0 (by rw [← HM.out]; exact kl) (down_of ALL.out)
      go_wp2_with fail
      refine KD.mono ?_
      rintro e w3 ⟨rfl, hb⟩
      have W3 := Aside0.mk (W0.out.trans (hb.mono W0.out.size))
      obtain ⟨d, hd⟩ : ∃ d, d = declM l (k : Int) := ⟨_, rfl⟩
      rw [← hd]
      have HD := Aside0.mk hd
      clear hb hd KD
      by_cases hd0 : d = 0
      · subst hd0
        go_wp2_with fail
        go_roundw
        case rel => exact ⟨k + 1, by go_num, by omega, (fun q h0 h1 => (Int.lt_or_le q (k : Int)).elim (fun h => ALL.out q h0 h) (fun h => by have e_ : q = (k : Int) := (by push_cast at h1; omega); rw [e_]; exact HD.out.symm)), W3.out⟩
        case measure => simp [intOf]; omega
      · have hne : (d != 0) = true := by simp [hd0]
        go_wp2_with fail
        go_ret2
        exact ⟨(k : Int), d, rfl, .inr ⟨k0, by rw [← HM.out]; exact kl, HD.out, hd0, ALL.out⟩, B2.out.trans (W3.out.mono B2.out.size)⟩
    · obtain rfl : k = m := by omega
      clear hk hlk
      go_wp2_with fail
      go_ret2
      exact ⟨0, 0, rfl, .inl ⟨rfl, rfl, by rw [← HM.out]; exact ALL.out⟩, B2.out.trans (W0.out.mono B2.out.size)⟩
set_option maxRecDepth 100000 in
theorem SDecl_no (A : Option Addr) (c : Nat) (l : List S62) (w : World) (hl : LA w A c l) (hc : ¬ Clo l) :
    Calls Tryd.prog 35 #[.slice A l.length c] w fun e w' => ∃ n : Int, e = .returned (.tuple #[.int .i64 n, .int .i64 50]) ∧ CloOut l n 50 ∧ Below w.heap.size w w' := by
  have HC := Aside0.mk hc
  have K := hl.closed
  clear hl hc
  go_enter Tryd.func35, Tryd.ntmps35
  go_wp2_with fail
  refine K.mono ?_
  rintro e w1 ⟨⟨n0, e0, rfl, ho⟩, hb⟩
  obtain rfl := ho.no HC.out
  have B1 := Aside0.mk hb
  have HO := Aside0.mk ho
  clear hb K ho
  go_wp2_with fail
  go_ret2
  exact ⟨n0, rfl, HO.out, B1.out⟩
/-- All declarations are valid. -/
def Valid (l : List S62) : Prop := ∀ m : Int, 0 ≤ m → m < ((flat l).length : Int) → declM l m = 0
theorem declM_up {l : List S62} {x o : Int} {t : List Int} (h : declM l x = 0) (hz : (tyAt l x).f1 = o :: t) : t = [] ∧ (tyAt l o).f0 = false ∧ depthM l o < 63 ∧ compM l (tyAt l x).f2 (tyAt l o).f2 = true := by
  unfold declM at h
  by_cases h1 : ∃ h ∈ (tyAt l x).f1, x ≤ h
  · rw [if_pos h1] at h; omega
  rw [if_neg h1] at h
  by_cases h2 : 1 < (tyAt l x).f1.length
  · rw [if_pos h2] at h; omega
  rw [if_neg h2, hz] at h
  dsimp only at h
  rw [hz] at h2
  have ht : t = [] := by cases t with | nil => rfl | cons u t => exact absurd (by simp) h2
  by_cases h3 : (tyAt l o).f0 = true
  · rw [if_pos h3] at h; omega
  rw [if_neg h3] at h
  by_cases h4 : 63 ≤ depthM l o
  · rw [if_pos h4] at h; omega
  rw [if_neg h4] at h
  by_cases h5 : compM l (tyAt l x).f2 (tyAt l o).f2 = true
  · exact ⟨ht, by simpa using h3, by omega, h5⟩
  · rw [if_neg h5] at h; omega
theorem compM_kind {l : List S62} {a b : S51} (h : compM l a b = true) : a.f0 = b.f0 := by
  unfold compM at h
  rw [Bool.and_eq_true] at h
  exact of_decide_eq_true h.1
set_option maxRecDepth 100000 in
set_option maxHeartbeats 4000000 in
theorem r5At_out (A : Option Addr) (c : Nat) (l : List S62) (n : Int) (w : World) (hl : LA w A c l) (hn : n < 0 ∨ ((flat l).length : Int) ≤ n) (hn2 : -9223372036854775808 ≤ n ∧ n < 9223372036854775808) :
    Calls Tryd.prog 36 #[.slice A l.length c, .int .i64 n] w fun e w' => e = .returned (.tuple #[.agg #[.bool false, .slice none 0 0, .int .i64 0, .slice none 0 0, .slice none 0 0, .slice none 0 0], .int .i64 0, .int .i64 0, .bool false]) ∧ Below w.heap.size w w' := by
  have HL := Aside0.mk hl
  have hw := hl.w
  have htc := tcount_le_wL l
  have hfl := flat_length l
  have hll : l.length ≤ 1048576 := by omega
  have HT : Aside0 (tcount l ≤ 1048576) := ⟨by omega⟩
  have hb0 : Below w.heap.size w (w.alloc (.cells #[.bool false, .slice none 0 0, .int .i64 0, .slice none 0 0, .slice none 0 0, .slice none 0 0] 53)) := (Below.refl _ _).alloc (Nat.le_refl _) _
  have HB := Aside0.mk hb0
  have Q0 := Aside0.mk (blk_new w (.cells #[.bool false, .slice none 0 0, .int .i64 0, .slice none 0 0, .slice none 0 0, .slice none 0 0] 53))
  clear hl hw htc hb0
  by_cases hneg : n < 0
  · clear hn hn2
    go_enter Tryd.func36, Tryd.ntmps36
    go_wp2_with fail
    refine bodyPost_ret (results_cell_t3 rfl _ _ w.heap.size #[.bool false, .slice none 0 0, .int .i64 0, .slice none 0 0, .slice none 0 0, .slice none 0 0] rfl (run_loadVar_row _ _ 53 53 _ (0, 0) _ (blk_new w _) Tryd.underlying53 rfl (by kernel_rfl))) rfl ?_
    exact ⟨rfl, (Below.refl _ _).alloc (Nat.le_refl _) _⟩
  have n0 : 0 ≤ n := by omega
  have N0 := Aside0.mk n0
  have N1 : Aside0 (((flat l).length : Int) ≤ n) := ⟨by omega⟩
  have N2 := Aside0.mk hn2
  clear hn hn2
  go_enter Tryd.func36, Tryd.ntmps36
  go_wp2_with fail
  clear n0 hneg
  go_loopw [1, 8] (fun v i W => ∃ (j : Nat) (x : Int), i = .int .i64 j ∧ j ≤ l.length ∧ v = .int .i64 x ∧ 0 ≤ x ∧ n = (tcount (l.take j) : Int) + x ∧ W = w.alloc (.cells #[.bool false, .slice none 0 0, .int .i64 0, .slice none 0 0, .slice none 0 0, .slice none 0 0] 53)) (fun _ i _ => l.length - (intOf i).toNat)
  case atStart => exact ⟨0, n, rfl, Nat.zero_le _, rfl, N0.out, by simp [tcount], rfl⟩
  case round =>
    obtain ⟨j, x, rfl, hj, rfl, x0, hx, rfl⟩ := hrel
    have HX := Aside0.mk hx
    clear hx
    have j0 : (0 : Int) ≤ (j : Int) := Int.natCast_nonneg j
    by_cases hlj : j < l.length
    · obtain ⟨ad, Ar, cr, rfl, d0, d1, hrc, hrC⟩ := at_T62 HL.out.C (j : Int) j0 (by omega)
      have HRJ := Aside0.mk (rd_RT_at l j hlj)
      simp only [Int.toNat_natCast] at d0 d1
      obtain ⟨r, hre⟩ : ∃ r, r = rd_T62 l (j : Int) := ⟨_, rfl⟩
      rw [← hre] at d0 d1 hrc hrC HRJ
      clear hre
      replace d0 := (HB.out.cell (World.block_lt_of_cell? w _ d0)).trans d0
      have jl : (j : Int) < (l.length : Int) := by omega
      have htk := tcount_take_le l j r HRJ.out
      have hxr : ¬ x < (r.f0.length : Int) := by
        have h1 := HX.out
        have h2 := N1.out
        omega
      have hwx : wrap64 (x - (r.f0.length : Int)) = x - r.f0.length := by
        have h2 := HX.out
        have h3 := N2.out
        have h4 := HT.out
        unfold wrap64; omega
      clear d1 hrc hrC htk
      go_wp2_with fail
      go_roundw
      case rel => exact ⟨j + 1, x - r.f0.length, by go_num, by omega, by rw [hwx], by omega, by rw [tcount_take l j r HRJ.out]; have := HX.out; push_cast; omega, trivial⟩
      case measure => simp [intOf]; omega
    · obtain rfl : j = l.length := by omega
      clear hj hlj
      go_wp2_with fail
      refine bodyPost_ret (results_cell_t3 rfl _ _ w.heap.size #[.bool false, .slice none 0 0, .int .i64 0, .slice none 0 0, .slice none 0 0, .slice none 0 0] rfl (run_loadVar_row _ _ 53 53 _ (0, 0) _ (blk_new w _) Tryd.underlying53 rfl (by kernel_rfl))) rfl ?_
      exact ⟨rfl, (Below.refl _ _).alloc (Nat.le_refl _) _⟩
set_option maxRecDepth 100000 in
theorem SComp_yes (A : Option Addr) (c : Nat) (l : List S62) (a : S51) (P1 : Option Addr) (p1 : Nat) (R1 : Option Addr) (r1 : Nat) (F1 : Option Addr) (f1 : Nat) (b : S51) (P2 : Option Addr) (p2 : Nat) (R2 : Option Addr) (r2 : Nat) (F2 : Option Addr) (f2 : Nat) (w : World) (hl : LA w A c l) (hc : Clo l) (htab : Lib.TabBelow Tryd.prog w.heap.size w "internal/strconv.uint64pow10" .u64 Lib.pow10Tab) (ha : CIn2 w a P1 R1 F1) (hb : CIn2 w b P2 R2 F2) :
    Calls Tryd.prog 37 #[.slice A l.length c, .agg #[.int .i64 a.f0, .slice P1 a.f1.length p1, .slice R1 a.f2.length r1, .slice F1 a.f3.length f1], .agg #[.int .i64 b.f0, .slice P2 b.f1.length p2, .slice R2 b.f2.length r2, .slice F2 b.f3.length f2]] w fun e w' => e = .returned (.bool (compM l a b)) ∧ Below w.heap.size w w' := by
  obtain ⟨W1, hW1⟩ : ∃ W1, W1 = ((w.alloc (.cells #[.int .i64 a.f0, .slice P1 a.f1.length p1, .slice R1 a.f2.length r1, .slice F1 a.f3.length f1] 51)).alloc (.cells #[.int .i64 b.f0, .slice P2 b.f1.length p2, .slice R2 b.f2.length r2, .slice F2 b.f3.length f2] 51)) := ⟨_, rfl⟩
  have ba : Below w.heap.size w W1 := by rw [hW1]; exact ((Below.refl _ _).alloc (Nat.le_refl _) _).alloc (by simp) _
  have q0 : W1.heap[w.heap.size]? = some (.cells #[.int .i64 a.f0, .slice P1 a.f1.length p1, .slice R1 a.f2.length r1, .slice F1 a.f3.length f1] 51 (0, 0)) := by rw [hW1]; exact blk_alloc (blk_new w _) _
  have q1 : W1.heap[w.heap.size + 1]? = some (.cells #[.int .i64 b.f0, .slice P2 b.f1.length p2, .slice R2 b.f2.length r2, .slice F2 b.f3.length f2] 51 (0, 0)) := by rw [hW1]; have h_ := blk_new (w.alloc (.cells #[.int .i64 a.f0, .slice P1 a.f1.length p1, .slice R1 a.f2.length r1, .slice F1 a.f3.length f1] 51)) (.cells #[.int .i64 b.f0, .slice P2 b.f1.length p2, .slice R2 b.f2.length r2, .slice F2 b.f3.length f2] 51); rw [World.size_alloc] at h_; exact h_
  have K := opened_calls A c l W1 (hl.below ba) (tab_mono (htab.on ba) ba.size)
  have HC := Aside0.mk hc
  have HF := Aside0.mk hl.flat_le
  have HA := Aside0.mk ha
  have HB := Aside0.mk hb
  have BA := Aside0.mk ba
  have Q := Aside0.mk (And.intro q0 q1)
  clear hl hc htab ha hb ba q0 q1
  go_enter Tryd.func37, Tryd.ntmps37
  go_wp2_with fail
  rw [← hW1]
  clear hW1
  refine K.mono ?_
  rintro e w1 ⟨hb, ⟨_, rfl, hx⟩ | ⟨hn, _⟩⟩
  rotate_left
  · exact absurd HC.out hn
  have B1 := Aside0.mk (BA.out.trans (hb.mono BA.out.size))
  have X1 := Aside0.mk hx
  have Q1 := Aside0.mk (And.intro (blk_below Q.out.1 hb) (blk_below Q.out.2 hb))
  have u0 : w1.cell? ⟨w.heap.size, 0, none⟩ = some (.int .i64 a.f0) := (blk_cell Q1.out.1 0).trans rfl
  have u1 : w1.cell? ⟨w.heap.size, 1, none⟩ = some (.slice P1 a.f1.length p1) := (blk_cell Q1.out.1 1).trans rfl
  have u2 : w1.cell? ⟨w.heap.size, 2, none⟩ = some (.slice R1 a.f2.length r1) := (blk_cell Q1.out.1 2).trans rfl
  have u3 : w1.cell? ⟨w.heap.size, 3, none⟩ = some (.slice F1 a.f3.length f1) := (blk_cell Q1.out.1 3).trans rfl
  have v0 : w1.cell? ⟨w.heap.size + 1, 0, none⟩ = some (.int .i64 b.f0) := (blk_cell Q1.out.2 0).trans rfl
  have v1 : w1.cell? ⟨w.heap.size + 1, 1, none⟩ = some (.slice P2 b.f1.length p2) := (blk_cell Q1.out.2 1).trans rfl
  have v2 : w1.cell? ⟨w.heap.size + 1, 2, none⟩ = some (.slice R2 b.f2.length r2) := (blk_cell Q1.out.2 2).trans rfl
  have v3 : w1.cell? ⟨w.heap.size + 1, 3, none⟩ = some (.slice F2 b.f3.length f2) := (blk_cell Q1.out.2 3).trans rfl
  clear hb hx K
  go_wp2_with fail
  refine (scomp_calls W1.heap.size l a P1 p1 R1 r1 F1 f1 b P2 p2 R2 r2 F2 f2 w1 X1.out HF.out HC.out (HA.out.below B1.out) (HB.out.below B1.out)).mono ?_
  rintro e w2 ⟨rfl, hb⟩
  have B2 := Aside0.mk (B1.out.trans (hb.mono B1.out.size))
  clear hb
  go_wp2_with fail
  go_ret
  exact ⟨rfl, B2.out⟩
set_option maxRecDepth 100000 in
theorem SDefined_yes (A : Option Addr) (c : Nat) (l : List S62) (a b : Int) (w : World) (hl : LA w A c l) (hc : Clo l) (htab : Lib.TabBelow Tryd.prog w.heap.size w "internal/strconv.uint64pow10" .u64 Lib.pow10Tab) (a0 : 0 ≤ a) (b0 : 0 ≤ b) :
    Calls Tryd.prog 38 #[.slice A l.length c, .int .i64 a, .int .i64 b] w fun e w' => e = .returned (.bool (heapM l a b)) ∧ Below w.heap.size w w' := by
  have K := SHeap_yes A c l a b w hl hc htab
  clear hl hc htab
  go_enter Tryd.func38, Tryd.ntmps38
  go_wp2_with fail
  refine K.mono ?_
  rintro e w1 ⟨rfl, hb⟩
  have B1 := Aside0.mk hb
  clear hb K
  go_wp2_with fail
  go_ret
  exact ⟨rfl, B1.out⟩
theorem deep_law {l : List S62} (hc : Clo l) (ht : tcount l ≤ 1048576) (hv : Valid l) {n o : Int} {t : List Int} (n0 : 0 ≤ n) (n1 : n < ((flat l).length : Int)) (hz : (tyAt l n).f1 = o :: t) :
    0 ≤ o ∧ o < ((flat l).length : Int) ∧ heapM l n o = true ∧ compM l (tyAt l n).f2 (tyAt l o).f2 = true ∧ (tyAt l o).f0 = false ∧ (tyAt l n).f2.f0 = (tyAt l o).f2.f0 := by
  obtain ⟨_, h1, _, h2⟩ := declM_up (hv n n0 n1) hz
  obtain ⟨e, o0, on⟩ := ch_on hc (down_of hv) n0 n1 hz
  have hfl := flat_length l
  refine ⟨o0, by omega, ?_, h2, h1, compM_kind h2⟩
  rw [heapM_rows (by simp [isM]; omega) (by simp [isM]; omega) n0 o0]
  exact ⟨o, by show o ∈ ch l n; rw [e]; exact List.mem_cons_of_mem _ (ch_self o), SameT.refl hc ht (by omega)⟩
set_option maxRecDepth 100000 in
set_option maxHeartbeats 8000000 in
theorem subDeep_calls (A : Option Addr) (c : Nat) (l : List S62) (n : Int) (w : World) (hl : LA w A c l) (hn2 : N64 n) (htab : Lib.TabBelow Tryd.prog w.heap.size w "internal/strconv.uint64pow10" .u64 Lib.pow10Tab) :
    Calls Tryd.prog 11 #[.slice A l.length c, .int .i64 n] w fun e w' => e = .returned (.bool true) ∧ Below w.heap.size w w' := by
  have HL := Aside0.mk hl
  have HT := Aside0.mk htab
  have N2 := Aside0.mk hn2
  have KS : Calls Tryd.prog 35 #[.slice A l.length c] w fun e w' => ∃ n er, e = .returned (.tuple #[.int .i64 n, .int .i64 er]) ∧ (er = 0 → Clo l ∧ Valid l) ∧ Below w.heap.size w w' := by
    by_cases hc : Clo l
    · refine (SDecl_yes A c l w hl hc htab).mono fun e w' ⟨n, er, h1, h2, h3⟩ => ⟨n, er, h1, fun h0 => ⟨hc, ?_⟩, h3⟩
      rcases h2 with ⟨_, _, h⟩ | ⟨_, _, _, h, _⟩
      · exact h
      · exact absurd h0 h
    · exact (SDecl_no A c l w hl hc).mono fun e w' ⟨n, h1, h2, h3⟩ => ⟨n, 50, h1, fun h0 => by omega, h3⟩
  have htl : tcount l ≤ 1048576 := by have := hl.flat_le; rw [flat_length] at this; exact this
  have HTL := Aside0.mk htl
  clear hl htab hn2 htl
  go_enter Tryd.func11, Tryd.ntmps11
  go_wp2_with fail
  refine KS.mono ?_
  rintro e w1 ⟨m1, er, rfl, ho, hb⟩
  have B1 := Aside0.mk hb
  have HO := Aside0.mk ho
  clear hb ho KS
  by_cases hn : n < 0 ∨ ((flat l).length : Int) ≤ n
  · have K := r5At_out A c l n w1 (HL.out.below B1.out) hn ⟨N2.out.1, by have := N2.out.2; omega⟩
    clear hn
    go_wp2_with fail
    refine K.mono ?_
    rintro e w2 ⟨rfl, hb⟩
    have B2 := Aside0.mk (B1.out.trans (hb.mono B1.out.size))
    obtain ⟨W3, hW3⟩ : ∃ W3, W3 = (w2.alloc (.cells #[.bool false, .slice none 0 0, .int .i64 0, .slice none 0 0, .slice none 0 0, .slice none 0 0] 53)) := ⟨_, rfl⟩
    have B3 : Aside0 (Below w.heap.size w W3) := ⟨by rw [hW3]; exact B2.out.alloc B2.out.size _⟩
    have AW := awake_calls W3 (tab_mono (HT.out.on B3.out) B3.out.size)
    clear hb K
    rcases Int.lt_trichotomy er 0 with he | rfl | he
    · have hne : (er != 0) = true := by simp; omega
      clear he
      rw [hW3] at AW B3
      go_wp2_with fail
      refine AW.mono ?_
      rintro e w4 ⟨rfl, hb⟩
      have B4 := Aside0.mk (B3.out.trans (hb.mono B3.out.size))
      clear hb AW
      go_wp2_with fail
      go_ret
      exact ⟨rfl, B4.out⟩
    · rw [hW3] at AW B3
      clear hW3
      go_wp2_with fail
      refine AW.mono ?_
      rintro e w4 ⟨rfl, hb⟩
      have B4 := Aside0.mk (B3.out.trans (hb.mono B3.out.size))
      clear hb AW
      go_wp2_with fail
      go_ret
      exact ⟨rfl, B4.out⟩
    · have hne : (er != 0) = true := by simp; omega
      clear he
      rw [hW3] at AW B3
      clear hW3
      go_wp2_with fail
      refine AW.mono ?_
      rintro e w4 ⟨rfl, hb⟩
      have B4 := Aside0.mk (B3.out.trans (hb.mono B3.out.size))
      clear hb AW
      go_wp2_with fail
      go_ret
      exact ⟨rfl, B4.out⟩
  · have n0 : 0 ≤ n := by omega
    have n1 : n < ((flat l).length : Int) := by omega
    have K := r5At_calls A c l n w1 (HL.out.below B1.out) n0 n1
    have N01 := Aside0.mk (And.intro n0 n1)
    clear hn n0 n1
    go_wp2_with fail
    refine K.mono ?_
    rintro e w2 ⟨A1, c1, A3, c3, A4, c4, A5, c5, i0, p0, rfl, hty, hb⟩
    obtain ⟨hcin, hslen⟩ := cin2_of (HL.out.below B1.out) N01.out.1 N01.out.2 hty
    obtain ⟨⟨m1_, r1⟩, _⟩ := hty.open
    have B2 := Aside0.mk (B1.out.trans (hb.mono B1.out.size))
    obtain ⟨s, hs⟩ : ∃ s, s = tyAt l n := ⟨_, rfl⟩
    rw [← hs] at r1 hcin ⊢
    have HS := Aside0.mk hs
    obtain ⟨W3, hW3⟩ : ∃ W3, W3 = (w2.alloc (.cells #[.bool s.f0, .slice A1 s.f1.length c1, .int .i64 s.f2.f0, .slice A3 s.f2.f1.length c3, .slice A4 s.f2.f2.length c4, .slice A5 s.f2.f3.length c5] 53)) := ⟨_, rfl⟩
    have B3 : Aside0 (Below w.heap.size w W3) := ⟨by rw [hW3]; exact B2.out.alloc B2.out.size _⟩
    have Q3 : Aside0 (W3.heap[w2.heap.size]? = some (.cells #[.bool s.f0, .slice A1 s.f1.length c1, .int .i64 s.f2.f0, .slice A3 s.f2.f1.length c3, .slice A4 s.f2.f2.length c4, .slice A5 s.f2.f3.length c5] 53 (0, 0))) := ⟨by rw [hW3]; exact blk_new w2 _⟩
    have BW : Aside0 (Below w1.heap.size w1 W3) := ⟨by rw [hW3]; exact hb.alloc hb.size _⟩
    have CI := Aside0.mk hcin
    have R1 := Aside0.mk r1
    clear hb K hty hcin hslen m1_ r1 hs
    have z1 : W3.cell? ⟨w2.heap.size, 1, none⟩ = some (.slice A1 s.f1.length c1) := (blk_cell Q3.out 1).trans rfl
    have HZ1 := Aside0.mk z1
    have AW := awake_calls W3 (tab_mono (HT.out.on B3.out) B3.out.size)
    rw [hW3] at z1
    by_cases he : er = 0
    rotate_left
    · have hne : (er != 0) = true := by simp [he]
      clear he
      go_wp2_with fail
      rw [← hW3]
      clear hW3
      refine AW.mono ?_
      rintro e w4 ⟨rfl, hb⟩
      have B4 := Aside0.mk (B3.out.trans (hb.mono B3.out.size))
      clear hb AW
      go_wp2_with fail
      go_ret
      exact ⟨rfl, B4.out⟩
    subst he
    have hcase : s.f1 = [] ∨ ∃ o t, s.f1 = o :: t := by cases s.f1 with | nil => exact .inl rfl | cons o t => exact .inr ⟨o, t, rfl⟩
    rcases hcase with hz | ⟨o, t, hz⟩
    · rw [hz] at z1
      go_wp2_with fail
      rw [hz, List.length_nil] at hW3
      rw [← hW3]
      clear hW3
      refine AW.mono ?_
      rintro e w4 ⟨rfl, hb⟩
      have B4 := Aside0.mk (B3.out.trans (hb.mono B3.out.size))
      clear hb AW
      go_wp2_with fail
      go_ret
      exact ⟨rfl, B4.out⟩
    obtain ⟨hc, hv⟩ := HO.out rfl
    have HC := Aside0.mk hc
    obtain ⟨o0, o1, hp, cm, fin, kd⟩ := deep_law hc HTL.out hv N01.out.1 N01.out.2 (o := o) (t := t) (by rw [← HS.out]; exact hz)
    obtain ⟨ai, y, eA, hy, hcy⟩ := at_int' R1.out 0 (by rw [hz]; simp)
    obtain rfl : o = y := by rw [hz] at hy; simpa using hy
    have e_ : ai.add 0 = ai := (by simp [Addr.add])
    rw [e_] at hcy
    subst eA
    replace hcy := (BW.out.cell (World.block_lt_of_cell? w1 _ hcy)).trans hcy
    have HCY := Aside0.mk hcy
    have OI := Aside0.mk (And.intro o0 o1)
    have hlen : 0 < s.f1.length := by rw [hz]; simp
    have hlen' : (s.f1.length : Int) ≠ 0 := by omega
    have hlen2 : ((s.f1.length : Int) == 0) = false := beq_eq_false_iff_ne.2 hlen'
    have KAt := r5At_calls A c l o W3 (HL.out.below B3.out) o0 o1
    rw [hW3] at hcy
    clear hc hv o0 o1 hz hy e_ AW HO
    go_wp2_with fail
    rw [← hW3]
    clear hW3 z1 hcy
    refine KAt.mono ?_
    rintro e w4 ⟨E1, d1, E3, d3, E4, d4, E5, d5, i2, p2, rfl, hto, hb4⟩
    obtain ⟨hco, _⟩ := cin2_of (HL.out.below B3.out) OI.out.1 OI.out.2 hto
    obtain ⟨so, hso⟩ : ∃ so, so = tyAt l o := ⟨_, rfl⟩
    rw [← hso] at hco cm fin kd ⊢
    rw [← HS.out] at cm kd
    have B4 := Aside0.mk (B3.out.trans (hb4.mono B3.out.size))
    have hQ4 := blk_below Q3.out hb4
    have hlt4 : w2.heap.size < w4.heap.size := blk_lt hQ4
    have z1 := (hb4.cell (World.block_lt_of_cell? W3 _ HZ1.out)).trans HZ1.out
    have hcy := (hb4.cell (World.block_lt_of_cell? W3 _ HCY.out)).trans HCY.out
    have hai : ai.block < w4.heap.size := World.block_lt_of_cell? w4 _ hcy
    obtain ⟨W5, hW5⟩ : ∃ W5, W5 = w4.alloc (.cells #[.bool so.f0, .slice E1 so.f1.length d1, .int .i64 so.f2.f0, .slice E3 so.f2.f1.length d3, .slice E4 so.f2.f2.length d4, .slice E5 so.f2.f3.length d5] 53) := ⟨_, rfl⟩
    have hb5 : Below w4.heap.size w4 W5 := by rw [hW5]; exact (Below.refl _ _).alloc (Nat.le_refl _) _
    have B5 := Aside0.mk (B4.out.trans (hb5.mono B4.out.size))
    have BW5 := Aside0.mk (BW.out.trans ((hb4.trans (hb5.mono hb4.size)).mono BW.out.size))
    have B35 := Aside0.mk (hb4.trans (hb5.mono hb4.size))
    have Q5 : Aside0 (W5.heap[w2.heap.size]? = some (.cells #[.bool s.f0, .slice (some ai) s.f1.length c1, .int .i64 s.f2.f0, .slice A3 s.f2.f1.length c3, .slice A4 s.f2.f2.length c4, .slice A5 s.f2.f3.length c5] 53 (0, 0)) ∧ W5.heap[w4.heap.size]? = some (.cells #[.bool so.f0, .slice E1 so.f1.length d1, .int .i64 so.f2.f0, .slice E3 so.f2.f1.length d3, .slice E4 so.f2.f2.length d4, .slice E5 so.f2.f3.length d5] 53 (0, 0))) := ⟨blk_below hQ4 hb5, by rw [hW5]; exact blk_new w4 _⟩
    have HCY5 := Aside0.mk ((hb5.cell hai).trans hcy)
    have CO := Aside0.mk (show CIn2 W3 so.f2 E3 E4 E5 from hco)
    have K1 := SHeap_yes A c l n o W5 (HL.out.below B5.out) HC.out (tab_mono (HT.out.on B5.out) B5.out.size)
    rw [hp] at K1
    have CMK := Aside0.mk (And.intro cm (And.intro fin (And.intro kd hp)))
    clear hb4 hto hco hso cm fin kd hp hQ4 hb5 KAt
    go_wp2_with fail
    rw [← hW5]
    clear hW5 hcy z1 hai hlt4
    refine K1.mono ?_
    rintro e w6 ⟨rfl, hb⟩
    have B6 := Aside0.mk (B5.out.trans (hb.mono B5.out.size))
    have B36 := Aside0.mk (B35.out.trans (hb.mono B35.out.size))
    have BW6 := Aside0.mk (BW5.out.trans (hb.mono BW5.out.size))
    have Q6 := Aside0.mk (And.intro (blk_below Q5.out.1 hb) (blk_below Q5.out.2 hb))
    have HCY6 := Aside0.mk ((hb.cell (World.block_lt_of_cell? W5 _ HCY5.out)).trans HCY5.out)
    have u2 : w6.cell? ⟨w2.heap.size, 2, none⟩ = some (.int .i64 s.f2.f0) := (blk_cell Q6.out.1 2).trans rfl
    have u3 : w6.cell? ⟨w2.heap.size, 3, none⟩ = some (.slice A3 s.f2.f1.length c3) := (blk_cell Q6.out.1 3).trans rfl
    have u4 : w6.cell? ⟨w2.heap.size, 4, none⟩ = some (.slice A4 s.f2.f2.length c4) := (blk_cell Q6.out.1 4).trans rfl
    have u5 : w6.cell? ⟨w2.heap.size, 5, none⟩ = some (.slice A5 s.f2.f3.length c5) := (blk_cell Q6.out.1 5).trans rfl
    have v2 : w6.cell? ⟨w4.heap.size, 2, none⟩ = some (.int .i64 so.f2.f0) := (blk_cell Q6.out.2 2).trans rfl
    have v3 : w6.cell? ⟨w4.heap.size, 3, none⟩ = some (.slice E3 so.f2.f1.length d3) := (blk_cell Q6.out.2 3).trans rfl
    have v4 : w6.cell? ⟨w4.heap.size, 4, none⟩ = some (.slice E4 so.f2.f2.length d4) := (blk_cell Q6.out.2 4).trans rfl
    have v5 : w6.cell? ⟨w4.heap.size, 5, none⟩ = some (.slice E5 so.f2.f3.length d5) := (blk_cell Q6.out.2 5).trans rfl
    have K2 := SComp_yes A c l s.f2 A3 c3 A4 c4 A5 c5 so.f2 E3 d3 E4 d4 E5 d5 w6 (HL.out.below B6.out) HC.out (tab_mono (HT.out.on B6.out) B6.out.size) (CI.out.below BW6.out) (CO.out.below B36.out)
    rw [CMK.out.1] at K2
    clear hb K1
    go_wp2_with fail
    refine K2.mono ?_
    rintro e w7 ⟨rfl, hb⟩
    have B7 := Aside0.mk (B6.out.trans (hb.mono B6.out.size))
    have Q7 := Aside0.mk (And.intro (blk_below Q6.out.1 hb) (blk_below Q6.out.2 hb))
    have hcy := (hb.cell (World.block_lt_of_cell? w6 _ HCY6.out)).trans HCY6.out
    clear u2 u3 u4 u5 v2 v3 v4 v5
    have u1 : w7.cell? ⟨w2.heap.size, 1, none⟩ = some (.slice (some ai) s.f1.length c1) := (blk_cell Q7.out.1 1).trans rfl
    have u2 : w7.cell? ⟨w2.heap.size, 2, none⟩ = some (.int .i64 s.f2.f0) := (blk_cell Q7.out.1 2).trans rfl
    have v0 : w7.cell? ⟨w4.heap.size, 0, none⟩ = some (.bool so.f0) := (blk_cell Q7.out.2 0).trans rfl
    have v2 : w7.cell? ⟨w4.heap.size, 2, none⟩ = some (.int .i64 so.f2.f0) := (blk_cell Q7.out.2 2).trans rfl
    rw [CMK.out.2.1] at v0
    have kk : (s.f2.f0 == so.f2.f0) = true := by rw [CMK.out.2.2.1]; exact beq_self_eq_true _
    have K3 := SDefined_yes A c l n o w7 (HL.out.below B7.out) HC.out (tab_mono (HT.out.on B7.out) B7.out.size) N01.out.1 OI.out.1
    rw [CMK.out.2.2.2] at K3
    clear hb K2
    go_wp2_with fail
    refine K3.mono ?_
    rintro e w8 ⟨rfl, hb⟩
    have B8 := Aside0.mk (B7.out.trans (hb.mono B7.out.size))
    clear hb K3
    go_wp2_with fail
    go_ret
    exact ⟨rfl, B8.out⟩
end Go.Proofs.YtfgglniigeagdaaDoor.Cn
