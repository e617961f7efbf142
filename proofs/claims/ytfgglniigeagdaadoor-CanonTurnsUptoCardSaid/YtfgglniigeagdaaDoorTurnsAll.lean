/- CanonTurns: what it answers, for all inputs. -/
import Derived.Test.YtfgglniigeagdaaDoorTurns
namespace Go.Proofs.YtfgglniigeagdaaDoor.Cn
set_option linter.unusedSimpArgs false
set_option linter.unusedVariables false
open Go.RowKit Go.Maps Go.Proofs.YtfgglniigeagdaaDoorW.PrintWords Go.Proofs.YtfgglniigeagdaaDoorW.PrintLast Go.Proofs.YtfgglniigeagdaaDoorW.PrintMore Go.Proofs.YtfgglniigeagdaaDoor.QD Go.Proofs.YtfgglniigeagdaaDoor.Opb
def kAt : Kd (Int × Int × Int) := Kd.pair (Kd.int .i64) (Kd.pair (Kd.int .i64) (Kd.int .i64))
theorem kAt_open {w : World} {x : Int × Int × Int} {cs : List Value} (h : kAt.K w x cs) : cs = [.int .i64 x.1, .int .i64 x.2.1, .int .i64 x.2.2] := by
  obtain ⟨_, _, rfl, rfl, ⟨_, _, rfl, rfl, rfl⟩⟩ := h
  exact rfl
theorem opbAt : Opb Tryd.prog 33 kAt (fun _ => True) (fun _ => 1) :=
  (Opb.struct Tryd.underlying33 (by kernel_rfl) (OpbF.cons opbInt rfl rfl (OpbF.cons opbInt rfl rfl (OpbF.last opbInt rfl)))).imp (fun _ _ => trivial) (fun _ => by omega)
theorem canonTurns_calls (A0 : Option Addr) (c0 : Nat) (l : List S62) (A1 : Option Addr) (c1 : Nat) (more : List S62) (x y z : Int) (w : World) (hl : LA w A0 c0 l) (hm : LA w A1 c1 more) (htab : Lib.TabBelow Tryd.prog w.heap.size w "internal/strconv.uint64pow10" .u64 Lib.pow10Tab) :
    Calls Tryd.prog 4 #[.slice A0 l.length c0, .slice A1 more.length c1, .agg #[.int .i64 x, .int .i64 y, .int .i64 z]] w fun e w' => e = .returned (.bool true) ∧ Below w.heap.size w w' := by
  obtain ⟨b2, k2, h2⟩ : ∃ b k, oneM l l y x = (b, k) := ⟨_, _, rfl⟩
  obtain ⟨b3, k3, h3⟩ : ∃ b k, oneM l l y z = (b, k) := ⟨_, _, rfl⟩
  obtain ⟨b4, k4, h4⟩ : ∃ b k, oneM l l x z = (b, k) := ⟨_, _, rfl⟩
  by_cases hxy : Clo l ∧ Clo l ∧ 0 ≤ x ∧ x < tcount l ∧ 0 ≤ y ∧ y < tcount l
  · by_cases hz : 0 ≤ z ∧ z < tcount l
    · obtain ⟨hc, _, x0, x1, y0, y1⟩ := hxy
      obtain ⟨g1, i1, ha, hi⟩ := oneIds_self (l := l) (by have := tcount_le_wL l; have := hl.w; omega)
      have e1 := oneM_ok hc hc ⟨x0, x1, y0, y1⟩
      have e2 := oneM_ok hc hc ⟨y0, y1, x0, x1⟩
      have e3 := oneM_ok hc hc ⟨y0, y1, hz.1, hz.2⟩
      have e4 := oneM_ok hc hc ⟨x0, x1, hz.1, hz.2⟩
      have e5 := oneM_ok hc hc ⟨x0, x1, x0, x1⟩
      rw [hi] at e1 e2 e3 e4 e5
      dsimp only at e1 e2 e3 e4 e5
      have ec : (rd i1 y == rd i1 x) = (rd i1 x == rd i1 y) := by rw [Bool.eq_iff_iff, beq_iff_eq, beq_iff_eq]; exact eq_comm
      rw [ec] at e2
      rw [beq_self_eq_true] at e5
      refine turns_yes A0 c0 l A1 c1 more x y z w hl hm htab hc ⟨x0, x1⟩ ⟨y0, y1⟩ _ _ _ ⟨e1⟩ ⟨e2⟩ ⟨e3⟩ ⟨e4⟩ ⟨e5⟩ ?_
      by_cases p : rd i1 x = rd i1 y
      · by_cases q : rd i1 y = rd i1 z
        · exact .inr (.inr ⟨by simp [p], by simp [q], by simp [p, q]⟩)
        · exact .inr (.inl ⟨by simp [p], by simp [q]⟩)
      · exact .inl (by simp [p])
    · obtain ⟨k, h3', hk⟩ := oneM_bad (a := l) (b := l) (x := y) (y := z) (fun h => hz ⟨h.2.2.2.2.1, h.2.2.2.2.2⟩)
      exact turns_no2 A0 c0 l A1 c1 more x y z w hl hm htab _ b2 b4 k2 k k4 ⟨oneM_ok hxy.1 hxy.1 ⟨hxy.2.2.1, hxy.2.2.2.1, hxy.2.2.2.2.1, hxy.2.2.2.2.2⟩⟩ ⟨h2⟩ ⟨h3'⟩ hk ⟨h4⟩
  · obtain ⟨k, h1, hk⟩ := oneM_bad hxy
    exact turns_no1 A0 c0 l A1 c1 more x y z w hl hm htab b2 b3 b4 k k2 k3 k4 ⟨h1⟩ hk ⟨h2⟩ ⟨h3⟩ ⟨h4⟩
end Go.Proofs.YtfgglniigeagdaaDoor.Cn
