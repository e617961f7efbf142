/- Contracts of arena's functions on an arena that nobody made. -/
import Derived.Test.YtgjflboleognmaaProg
import Derived.WalkKit
import Derived.WalkLawsBesides
import Derived.WalkSpells
import Derived.KernelRfl
import Derived.Below
import Derived.Laws.Externs
import Derived.Outline
import Derived.Deep.RegionHeld3
namespace Go.Proofs.Ytgjflboleognmaa.Az
open Go.RowKit
def Ret (v : Value) (w : World) (e : Ending) (w' : World) : Prop := e = .returned v ∧ Below w.heap.size w w'
def RetE (w : World) (e : Ending) (w' : World) : Prop := ∃ v, e = .returned (.tuple #[v, .int .i64 7]) ∧ Below w.heap.size w w'
theorem below_drewN {B : Nat} {w w1 : World} (h : Below B w w1) (n : Nat) : Below B w (w1.drewN n) := ⟨h.os, h.tape, h.output, h.size, h.block⟩
theorem below_drew {B : Nat} {w w1 : World} (h : Below B w w1) : Below B w w1.drew := ⟨h.os, h.tape, h.output, h.size, h.block⟩
set_option maxRecDepth 100000 in
theorem none_nil (w : World) : Calls Try.prog 25 #[.pointer none] w fun e w' => e = .returned (.bool true) ∧ w' = w := by
  go_enter Try.func25, Try.ntmps25
  go_wp2
  go_ret
  exact ⟨rfl, rfl⟩
set_option maxRecDepth 100000 in
theorem none_zero (b : Nat) (w : World) (hm : w.cell? ⟨b, 0, none⟩ = some (.bool false)) : Calls Try.prog 25 #[.pointer (some ⟨b, 0, none⟩)] w fun e w' => e = .returned (.bool true) ∧ w' = w := by
  go_enter Try.func25, Try.ntmps25
  go_wp2
  go_ret
  exact ⟨rfl, rfl⟩
set_option maxRecDepth 100000 in
theorem tnone_nil (w : World) : Calls Try.prog 50 #[.pointer none] w fun e w' => e = .returned (.bool true) ∧ w' = w := by
  go_enter Try.func50, Try.ntmps50
  go_wp2
  go_ret
  exact ⟨rfl, rfl⟩
set_option maxRecDepth 100000 in
theorem tnone_zero (b : Nat) (w : World) (hm : w.cell? ⟨b, 3, none⟩ = some (.bool false)) : Calls Try.prog 50 #[.pointer (some ⟨b, 0, none⟩)] w fun e w' => e = .returned (.bool true) ∧ w' = w := by
  go_enter Try.func50, Try.ntmps50
  go_wp2
  go_ret
  exact ⟨rfl, rfl⟩
set_option maxRecDepth 100000 in
theorem tcopy_nil (w : World) : Calls Try.prog 24 #[.pointer none] w fun e w' => e = .returned (.pointer none) ∧ w' = w := by
  go_enter Try.func24, Try.ntmps24
  go_wp2_with (go_at_call 50; refine (tnone_nil _).mono ?_; rintro e w' ⟨rfl, rfl⟩)
  go_ret
  exact ⟨rfl, rfl⟩
set_option maxRecDepth 100000 in
theorem tcopy_zero (b : Nat) (w : World) (hm : w.cell? ⟨b, 3, none⟩ = some (.bool false)) : Calls Try.prog 24 #[.pointer (some ⟨b, 0, none⟩)] w fun e w' => e = .returned (.pointer none) ∧ w' = w := by
  go_enter Try.func24, Try.ntmps24
  go_wp2_with (go_at_call 50; refine (tnone_zero b _ (by assumption)).mono ?_; rintro e w' ⟨rfl, rfl⟩)
  go_ret
  exact ⟨rfl, rfl⟩
set_option maxRecDepth 100000 in
theorem new_nil (w : World) : Calls Try.prog 5 #[.int .i64 8, .pointer none] w (Ret (.tuple #[.pointer none, .int .i64 7]) w) := by
  go_enter Try.func5, Try.ntmps5
  go_wp2_with (go_at_call 24; refine (tcopy_nil _).mono ?_; rintro e w' ⟨rfl, rfl⟩)
  go_ret2
  exact ⟨rfl, Below.refl _ _⟩
set_option maxRecDepth 100000 in
theorem new_zero (b : Nat) (w : World) (hm : w.cell? ⟨b, 3, none⟩ = some (.bool false)) : Calls Try.prog 5 #[.int .i64 8, .pointer (some ⟨b, 0, none⟩)] w (Ret (.tuple #[.pointer none, .int .i64 7]) w) := by
  go_enter Try.func5, Try.ntmps5
  go_wp2_with (go_at_call 24; refine (tcopy_zero b _ (by assumption)).mono ?_; rintro e w' ⟨rfl, rfl⟩)
  go_ret2
  exact ⟨rfl, Below.refl _ _⟩
set_option maxRecDepth 100000 in
theorem struct_nil (n : Int) (w : World) : Calls Try.prog 6 #[.pointer none, .int .i64 n] w (RetE w) := by
  go_enter Try.func6, Try.ntmps6
  go_wp2_with (go_at_call 25; refine (none_nil _).mono ?_; rintro e w' ⟨rfl, rfl⟩)
  go_ret2
  exact ⟨_, rfl, Below.refl _ _⟩
set_option maxRecDepth 100000 in
theorem array_zero (b : Nat) (n m : Int) (w : World) (hm : w.cell? ⟨b, 0, none⟩ = some (.bool false)) : Calls Try.prog 7 #[.pointer (some ⟨b, 0, none⟩), .int .i64 n, .int .u64 m] w (RetE w) := by
  go_enter Try.func7, Try.ntmps7
  go_wp2_with (go_at_call 25; refine (none_zero b _ (by assumption)).mono ?_; rintro e w' ⟨rfl, rfl⟩)
  go_ret2
  exact ⟨_, rfl, Below.refl _ _⟩
set_option maxRecDepth 100000 in
theorem exn_nil (n : Int) (v : Value) (w : World) : Calls Try.prog 8 #[.pointer none, .int .i64 n, v] w (RetE w) := by
  go_enter Try.func8, Try.ntmps8
  go_wp2_with (go_at_call 25; refine (none_nil _).mono ?_; rintro e w' ⟨rfl, rfl⟩)
  go_ret2
  exact ⟨_, rfl, Below.refl _ _⟩
set_option maxRecDepth 100000 in
theorem top_nil (w : World) : Calls Try.prog 14 #[.pointer none] w (Ret (.int .i64 0) w) := by
  go_enter Try.func14, Try.ntmps14
  go_wp2_with (go_at_call 25; refine (none_nil _).mono ?_; rintro e w' ⟨rfl, rfl⟩)
  go_ret
  exact ⟨rfl, Below.refl _ _⟩
set_option maxRecDepth 100000 in
theorem words_nil (w : World) : Calls Try.prog 15 #[.pointer none] w (Ret (.int .i64 0) w) := by
  go_enter Try.func15, Try.ntmps15
  go_wp2_with (go_at_call 25; refine (none_nil _).mono ?_; rintro e w' ⟨rfl, rfl⟩)
  go_ret
  exact ⟨rfl, Below.refl _ _⟩
set_option maxRecDepth 100000 in
theorem words_zero (b : Nat) (w : World) (hm : w.cell? ⟨b, 0, none⟩ = some (.bool false)) : Calls Try.prog 15 #[.pointer (some ⟨b, 0, none⟩)] w (Ret (.int .i64 0) w) := by
  go_enter Try.func15, Try.ntmps15
  go_wp2_with (go_at_call 25; refine (none_zero b _ (by assumption)).mono ?_; rintro e w' ⟨rfl, rfl⟩)
  go_ret
  exact ⟨rfl, Below.refl _ _⟩
set_option maxRecDepth 100000 in
theorem copy_zero (b : Nat) (w : World) (hm : w.cell? ⟨b, 0, none⟩ = some (.bool false)) : Calls Try.prog 17 #[.pointer (some ⟨b, 0, none⟩)] w (Ret (.pointer none) w) := by
  go_enter Try.func17, Try.ntmps17
  go_wp2_with (go_at_call 25; refine (none_zero b _ (by assumption)).mono ?_; rintro e w' ⟨rfl, rfl⟩)
  go_ret
  exact ⟨rfl, Below.refl _ _⟩
theorem b1 (w : World) (o1 : Obj) : Below w.heap.size w (w.alloc o1) := (Below.refl w.heap.size w).alloc (Nat.le_refl _) o1
theorem b2 (w : World) (o1 o2 : Obj) : Below w.heap.size w ((w.alloc o1).alloc o2) := (b1 w o1).alloc (b1 w o1).size o2
theorem b3 (w : World) (o1 o2 o3 : Obj) : Below w.heap.size w (((w.alloc o1).alloc o2).alloc o3) := (b2 w o1 o2).alloc (b2 w o1 o2).size o3
set_option maxRecDepth 100000 in
theorem objects_zero (b : Nat) (w : World) (hm : w.cell? ⟨b, 0, none⟩ = some (.bool false)) : Calls Try.prog 13 #[.pointer (some ⟨b, 0, none⟩)] w (Ret (.slice none 0 0) w) := by
  go_enter Try.func13, Try.ntmps13
  go_wp2_with (go_at_call 25; refine (none_zero b _ (by assumption)).mono ?_; rintro e w' ⟨rfl, rfl⟩)
  go_ret
  exact ⟨rfl, Below.refl _ _⟩
set_option maxRecDepth 100000 in
theorem keep_nil (w : World) : Calls Try.prog 10 #[.pointer none, .slice none 0 0] w (RetE w) := by
  go_enter Try.func10, Try.ntmps10
  go_wp2_with (go_at_call 25; refine (none_nil _).mono ?_; rintro e w' ⟨rfl, rfl⟩)
  go_ret2
  exact ⟨_, rfl, b1 w _⟩
set_option maxRecDepth 100000 in
theorem free_nil (w : World) : Calls Try.prog 16 #[.pointer none] w (Ret (.int .i64 0) w) := by
  go_enter Try.func16, Try.ntmps16
  go_wp2_with (first | (go_at_call 15; refine (words_nil _).mono ?_; rintro e w1 ⟨rfl, hb1⟩) | (go_at_call 14; refine (top_nil _).mono ?_; rintro e w2 ⟨rfl, hb2⟩))
  go_ret
  exact ⟨rfl, hb1.trans (hb2.mono hb1.size)⟩
theorem results_cell2 {fn : Func} {p q : Tmp} {t u : TypeId} (h : fn.results = #[.cell p t, .cell q u]) (tmps : Array Value) (P : Program) (w : World) :
    (results fn tmps).run P w =
      ((asAddr (tmps.getD p undef)).run P w).andThen fun a w₁ => ((loadVar t a).run P w₁).andThen fun v w₂ => ((asAddr (tmps.getD q undef)).run P w₂).andThen fun a' w₃ => ((loadVar u a').run P w₃).andThen fun v' w₄ => .ok (.tuple #[v, v']) w₄ := by
  simp only [results, h]
  simp [Sem.run_bind, Result.andThen]
set_option maxRecDepth 100000 in
theorem find_nil (a : Int) (w : World) : Calls Try.prog 34 #[.pointer none, .int .u64 a] w (Ret (.tuple #[.agg #[.int .i64 0, .int .i64 0, .int .u64 0, .int .i64 0], .int .i64 7]) w) := by
  go_enter Try.func34, Try.ntmps34
  go_wp2_with (go_at_call 25; refine (none_nil _).mono ?_; rintro e w' ⟨rfl, rfl⟩)
  refine bodyPost_ret (v := .tuple #[.agg #[.int .i64 0, .int .i64 0, .int .u64 0, .int .i64 0], .int .i64 7]) ?_ rfl ⟨rfl, b3 _ _ _ _⟩
  rw [results_cell2 rfl]
  go_simp
set_option maxRecDepth 100000 in
theorem find_zero (b : Nat) (a : Int) (w : World) (hb : b < w.heap.size) (hm : w.cell? ⟨b, 0, none⟩ = some (.bool false)) : Calls Try.prog 34 #[.pointer (some ⟨b, 0, none⟩), .int .u64 a] w (Ret (.tuple #[.agg #[.int .i64 0, .int .i64 0, .int .u64 0, .int .i64 0], .int .i64 7]) w) := by
  go_enter Try.func34, Try.ntmps34
  go_wp2_with (go_at_call 25; refine (none_zero b _ (((b3 w _ _ _).cell (p := ⟨b, 0, none⟩) hb).trans hm)).mono ?_; rintro e w' ⟨rfl, rfl⟩)
  refine bodyPost_ret (v := .tuple #[.agg #[.int .i64 0, .int .i64 0, .int .u64 0, .int .i64 0], .int .i64 7]) ?_ rfl ⟨rfl, b3 _ _ _ _⟩
  rw [results_cell2 rfl]
  go_simp
end Go.Proofs.Ytgjflboleognmaa.Az
