/- types.Closed: does each type speak only of those of which it may? -/
import Derived.Test.YtfgglniigeagdaaDoorAdd
namespace Go.Proofs.YtfgglniigeagdaaDoor.Cn
set_option linter.unusedSimpArgs false
set_option linter.unusedVariables false
open Go.RowKit Go.Maps Go.Proofs.YtfgglniigeagdaaDoorW.PrintWords Go.Proofs.YtfgglniigeagdaaDoorW.PrintLast Go.Proofs.YtfgglniigeagdaaDoorW.PrintMore Go.Proofs.YtfgglniigeagdaaDoor.QD
def okF (en : Int) (b : Bool) (h : Int) : Bool := b && decide (h < en) && decide (-12 ≤ h)
def okS (en : Int) (b : Bool) (h : Int) : Bool × Int := (okF en b h, h)
def supOk (l : List Int) : Bool := l.all fun h => decide (0 ≤ h)
def typeOk (en : Int) (s : S53) : Bool := (tsub (okS en) (supOk s.f1) s).1
/-- Each type speaks only of those of which it may. -/
def Clo (l : List S62) : Prop := ∀ (j : Nat) (r : S62), l[j]? = some r → ∀ s ∈ r.f0, typeOk (tcount (l.take (j + 1)) : Nat) s = true
structure OkSt (okb eb : Nat) (en : Int) (b : Bool) (W : World) : Prop where
  ok : W.heap[okb]? = some (.cells #[.bool b] 4 (0, 0))
  en : W.heap[eb]? = some (.cells #[.int .i64 en] 3 (0, 0))
set_option maxRecDepth 100000 in
theorem okT_calls (okb eb : Nat) (b : Bool) (en h : Int) (w : World) (hne : okb ≠ eb) (hs : OkSt okb eb en b w) :
    Calls Tryd.prog 49 #[.int .i64 h, .pointer (some ⟨okb, 0, none⟩), .pointer (some ⟨eb, 0, none⟩)] w fun e w' => e = .returned (.int .i64 h) ∧ w' = w.setCell ⟨okb, 0, none⟩ (.bool (okF en b h)) := by
  have c0 : w.cell? ⟨okb, 0, none⟩ = some (.bool b) := (blk_cell hs.ok 0).trans rfl
  have c1 : w.cell? ⟨eb, 0, none⟩ = some (.int .i64 en) := (blk_cell hs.en 0).trans rfl
  have f0 : w.frozen? ⟨okb, 0, none⟩ = false := blk_frozen hs.ok 0
  clear hs
  rcases hb : b with _ | _
  · subst hb
    have e : okF en false h = false := rfl
    rw [e]
    go_enter Tryd.func49, Tryd.ntmps49
    go_wp2_with fail
    go_ret
    exact ⟨rfl, rfl⟩
  · subst hb
    by_cases h1 : h < en
    · by_cases h2 : -12 ≤ h
      · have e : okF en true h = true := by simp [okF, h1, h2]
        rw [e]
        go_enter Tryd.func49, Tryd.ntmps49
        go_wp2_with fail
        go_ret
        exact ⟨rfl, rfl⟩
      · have e : okF en true h = false := by simp [okF, h2]
        rw [e]
        go_enter Tryd.func49, Tryd.ntmps49
        go_wp2_with fail
        go_ret
        exact ⟨rfl, rfl⟩
    · have e : okF en true h = false := by simp [okF, h1]
      rw [e]
      go_enter Tryd.func49, Tryd.ntmps49
      go_wp2_with fail
      go_ret
      exact ⟨rfl, rfl⟩
theorem okCb (okb eb base : Nat) (en : Int) (hne : okb ≠ eb) (h0 : okb < base) (h1 : eb < base) :
    Cb base (some okb) (fun _ => True) (OkSt okb eb en) (okS en) (.func (.func 49) #[] #[.pointer (some ⟨okb, 0, none⟩), .pointer (some ⟨eb, 0, none⟩)]) where
  row_lt := fun k h => by injection h with h; omega
  keep := fun {_ _ _} _ _ hb hs => ⟨(hb.block _ h0).trans hs.ok, (hb.block _ h1).trans hs.en⟩
  call := ⟨49, _, rfl, fun args w => enters_ Tryd.func49 (by kernel_rfl) rfl args w, fun s h w _ _ hs => (okT_calls okb eb s en h w hne hs).mono fun e w' ⟨he, hw⟩ => by
    subst hw
    refine ⟨he, ⟨?_, ?_⟩, ⟨rfl, rfl, rfl, by simp, fun i _ hi => Below.heap_setCell w ⟨okb, 0, none⟩ _ i (by rintro rfl; exact hi rfl)⟩⟩
    · have := blk_set hs.ok 0 (.bool (okF en s h))
      simpa [okS] using this
    · exact (Below.heap_setCell w ⟨okb, 0, none⟩ _ eb (Ne.symm hne)).trans hs.en⟩
end Go.Proofs.YtfgglniigeagdaaDoor.Cn
