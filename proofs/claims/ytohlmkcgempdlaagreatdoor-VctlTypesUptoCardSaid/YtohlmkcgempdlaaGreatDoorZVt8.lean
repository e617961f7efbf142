/- Parts of the proof of vctlTypes_holds (8 of 12): what it says and shows stands at its declarations. -/
import Derived.Test.YtohlmkcgempdlaaGreatDoorZVt7
import Derived.Maps.RangeWalk
import Derived.Maps.Own
namespace Go.Proofs.YtohlmkcgempdlaaGreatDoor.Cn
set_option linter.unusedSimpArgs false
set_option linter.unusedVariables false
open Go.RowKit Go.Maps Go.Proofs.YtohlmkcgempdlaaGreatDoorW.PrintWords Go.Proofs.YtohlmkcgempdlaaGreatDoorW.PrintLast Go.Proofs.YtohlmkcgempdlaaGreatDoorW.PrintMore Go.Proofs.YtohlmkcgempdlaaGreatDoor.QD
/-- An element of the map of steps: nothing is told of it. -/
def RN : Value → Option (DataW Unit × List MemPlace) := fun _ => some (.nil, [])
def DN (l : List Int) : DataW Unit := .map (l.map fun x => (Lit.int .i64 x, .nil))
theorem keyLaw : Keyed Tryz.prog 3 := int_keyed Tryz.underlying3
structure MM (w : World) (n : Nat) (D : DataW Unit) (W : World) : Prop where
  own : W.ownsMap Tryz.prog 3 RN w.heap.size n D
  bel : Below w.heap.size w W
theorem wpList_insert_mm {w W : World} {ops : Array Oper} {rest : List Oper} {o : Oper} {a : Act} {Q : Exit → Act → World → Prop} {n : Nat} {D : DataW Unit} (h : MM w n D W) (hg : o.guard = none) (m : Operand) (x : Int) (v : Operand)
    (hop : o.op = Op.insert 113 m (.const (.int .i64 x)) v) (hm : a.eval m = .map (some w.heap.size)) (hn : n < maxLen) (hx : (Lit.int .i64 x).wf = true)
    (hK : ∀ w', MM w (n + 1) (D.put (.int .i64 x) .nil) w' → wpList Tryz.prog ops Q rest (a.put o.dst undef) w') :
    wpList Tryz.prog ops Q (o :: rest) a W := by
  refine wpList_plain hg fun K' hK' => ?_
  obtain ⟨w', hrun, r1, r2⟩ := h.own.update keyLaw Tryz.underlying113 hn (keyOf_int_mk Tryz.underlying3 hx) (val := a.eval v) (d := .nil) (ps := []) rfl
  unfold Oper.wp
  have hx' : a.eval (.const (.int .i64 x)) = .int .i64 x := rfl
  simp [execOp, hop, hm, hx', hrun, Result.andThen]
  exact hK' _ _ (hK w' ⟨r1, h.bel.trans ⟨r2.os, r2.tape, r2.output, r2.size, fun k hk => r2.block k (Nat.lt_of_lt_of_le hk h.bel.size) (by intro e; injection e with e; omega)⟩⟩)
theorem dn_ops : ((((((((((((((((((DataW.map []).put (.int .i64 0) .nil).put (.int .i64 1) .nil).put (.int .i64 8) .nil).put (.int .i64 10) .nil).put (.int .i64 12) .nil).put (.int .i64 13) .nil).put (.int .i64 14) .nil).put (.int .i64 15) .nil).put (.int .i64 16) .nil).put (.int .i64 17) .nil).put (.int .i64 18) .nil).put (.int .i64 19) .nil).put (.int .i64 20) .nil).put (.int .i64 21) .nil).put (.int .i64 213) .nil).put (.int .i64 214) .nil : DataW Unit)) = DN OPS := by rfl
set_option maxRecDepth 100000 in
set_option maxHeartbeats 4000000 in
theorem vSteps_calls (w : World) : Calls Tryz.prog 52 #[] w fun e w' => e = .returned (.map (some w.heap.size)) ∧ MM w 16 (DN OPS) w' := by
  have hmm := @run_makeMap Tryz.prog
  have M0 : MM w 0 (.map []) (w.alloc (.map #[] 0)) := ⟨World.ownsMap_made w _ _ _, (Below.refl _ _).alloc (Nat.le_refl _) _⟩
  go_enter Tryz.func52, Tryz.ntmps52
  go_wp2_with (refine wpList_insert_mm (w := w) (by assumption) rfl (.tmp 1) _ _ rfl rfl (by decide) (by decide) ?_; intro w2 hM2)
  go_ret
  exact ⟨rfl, by rw [← dn_ops]; assumption⟩
end Go.Proofs.YtohlmkcgempdlaaGreatDoor.Cn
