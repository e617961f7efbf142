/-
  No cell of these rows narrows 'for every input' (looked for: loops, veiled, ifaces, maps, wideKeys, modest, calm, conditions, laid).
  DERIVED. THE GIVEN ROWS OF THIS SEAT. 11 by the template 'for every input the law returns true; each argument reads behind the call as it read before'; 0 by the template 'total and deterministic' (their statements: YtapfapngcncaeaaTotals.lean).
  GIVEN WITH THE SEED: the statements are not yours to turn. If you find one false, say at which input.
  Laid BY PROGRAM, IN A SANDBOX (cutbox-rows.mjs): the forced cells as the released guide's own fill.sh prints them over the translation 529c0bb3ccace004… (all of the seat's roots in one cut). By AI agents, Wed Nov 11 2026. No macro, syntax, notation, axiom, sorry.
-/
import Derived.Test.YtapfapngcncaeaaChecked
import GoSem.Claim
import GoSem.ClaimJoined
import GoSem.ClaimMapViews
import Derived.JoinedTies
import Derived.KernelRfl
namespace Go.Proofs.Ytapfapngcncaeaa
/- THE CELL 'sum', in the pinned program and in every row, IS THE sha256 OF THE DUMP (.gsa) THAT YtapfapngcncaeaaProg.lean LOADS. Nothing in Lean hashes anything: it is a label: what it is worth is what the hold of that sum in a sandbox is worth. -/
noncomputable def Try.pinned : Pinned := { name := "ytapfapngcncaeaa", sum := "529c0bb3ccace004de28f9fca87dd53cfd83002f4a73e7ca35b73a4c789a0cfe", checked := Try.checked }
namespace Rows
def none {H : Type} : Left H := { results := [], args := [] }

/-- 'ratchetlaw04.FnumNans': WHATEVER THE INPUT: true; the input reads as it did. -/
def fnumNansSpec : ChangeSpec := { name := "fnumNans", fn := fun _ => fun
  | [d1, d2] => { results := [.lit (.bool true)], args := [d1, d2] }
  | _ => none }
def fnumNansRow : OpenClaim := { program := "ytapfapngcncaeaa", sum := "529c0bb3ccace004de28f9fca87dd53cfd83002f4a73e7ca35b73a4c789a0cfe", func := "ratchet/ratchetlaw04.FnumNans", spec := "fnumNans", inPlace := ["math.Float32frombits", "math.Float64frombits"], apart := false }
def FnumNansSaid : Prop := fnumNansRow.holds Try.pinned (OpenSpec.ofChange fnumNansSpec)

/-- ITS FALSE NEIGHBOUR: 'it returns false'. Refute it at one input. -/
def fnumNansWrong : ChangeSpec := { name := "fnumNans", fn := fun _ => fun
  | [d1, d2] => { results := [.lit (.bool false)], args := [d1, d2] }
  | _ => none }
def FnumNansWrongFalsely : Prop := fnumNansRow.holds Try.pinned (OpenSpec.ofChange fnumNansWrong)

/-- 'ratchetlaw20.CastBits': WHATEVER THE INPUT: true; the input reads as it did. -/
def castBitsSpec : ChangeSpec := { name := "castBits", fn := fun _ => fun
  | [d1, d2, d3, d4] => { results := [.lit (.bool true)], args := [d1, d2, d3, d4] }
  | _ => none }
def castBitsRow : OpenClaim := { program := "ytapfapngcncaeaa", sum := "529c0bb3ccace004de28f9fca87dd53cfd83002f4a73e7ca35b73a4c789a0cfe", func := "ratchet/ratchetlaw20.CastBits", spec := "castBits", apart := false }
def CastBitsSaid : Prop := castBitsRow.holds Try.pinned (OpenSpec.ofChange castBitsSpec)

/-- ITS FALSE NEIGHBOUR: 'it returns false'. Refute it at one input. -/
def castBitsWrong : ChangeSpec := { name := "castBits", fn := fun _ => fun
  | [d1, d2, d3, d4] => { results := [.lit (.bool false)], args := [d1, d2, d3, d4] }
  | _ => none }
def CastBitsWrongFalsely : Prop := castBitsRow.holds Try.pinned (OpenSpec.ofChange castBitsWrong)

/-- 'ratchetlaw20.CastTurns': WHATEVER THE INPUT: true; the input reads as it did. -/
def castTurnsSpec : ChangeSpec := { name := "castTurns", fn := fun _ => fun
  | [d1, d2] => { results := [.lit (.bool true)], args := [d1, d2] }
  | _ => none }
def castTurnsRow : OpenClaim := { program := "ytapfapngcncaeaa", sum := "529c0bb3ccace004de28f9fca87dd53cfd83002f4a73e7ca35b73a4c789a0cfe", func := "ratchet/ratchetlaw20.CastTurns", spec := "castTurns", apart := false }
def CastTurnsSaid : Prop := castTurnsRow.holds Try.pinned (OpenSpec.ofChange castTurnsSpec)

/-- ITS FALSE NEIGHBOUR: 'it returns false'. Refute it at one input. -/
def castTurnsWrong : ChangeSpec := { name := "castTurns", fn := fun _ => fun
  | [d1, d2] => { results := [.lit (.bool false)], args := [d1, d2] }
  | _ => none }
def CastTurnsWrongFalsely : Prop := castTurnsRow.holds Try.pinned (OpenSpec.ofChange castTurnsWrong)

/-- 'ratchetlaw04.FnumCompare': WHATEVER THE INPUT: true; the input reads as it did. -/
def fnumCompareSpec : ChangeSpec := { name := "fnumCompare", fn := fun _ => fun
  | [d1, d2, d3] => { results := [.lit (.bool true)], args := [d1, d2, d3] }
  | _ => none }
def fnumCompareRow : OpenClaim := { program := "ytapfapngcncaeaa", sum := "529c0bb3ccace004de28f9fca87dd53cfd83002f4a73e7ca35b73a4c789a0cfe", func := "ratchet/ratchetlaw04.FnumCompare", spec := "fnumCompare", inPlace := ["math.Float32frombits", "math.Float64frombits"], apart := false }
def FnumCompareSaid : Prop := fnumCompareRow.holds Try.pinned (OpenSpec.ofChange fnumCompareSpec)

/-- ITS FALSE NEIGHBOUR: 'it returns false'. Refute it at one input. -/
def fnumCompareWrong : ChangeSpec := { name := "fnumCompare", fn := fun _ => fun
  | [d1, d2, d3] => { results := [.lit (.bool false)], args := [d1, d2, d3] }
  | _ => none }
def FnumCompareWrongFalsely : Prop := fnumCompareRow.holds Try.pinned (OpenSpec.ofChange fnumCompareWrong)

/-- 'ratchetlaw04.FnumBinary': WHATEVER THE INPUT: true; the input reads as it did. -/
def fnumBinarySpec : ChangeSpec := { name := "fnumBinary", fn := fun _ => fun
  | [d1, d2, d3] => { results := [.lit (.bool true)], args := [d1, d2, d3] }
  | _ => none }
def fnumBinaryRow : OpenClaim := { program := "ytapfapngcncaeaa", sum := "529c0bb3ccace004de28f9fca87dd53cfd83002f4a73e7ca35b73a4c789a0cfe", func := "ratchet/ratchetlaw04.FnumBinary", spec := "fnumBinary", inPlace := ["math.Float32frombits", "math.Float32bits", "math.Float64bits", "math.Float64frombits"], apart := false }
def FnumBinarySaid : Prop := fnumBinaryRow.holds Try.pinned (OpenSpec.ofChange fnumBinarySpec)

/-- ITS FALSE NEIGHBOUR: 'it returns false'. Refute it at one input. -/
def fnumBinaryWrong : ChangeSpec := { name := "fnumBinary", fn := fun _ => fun
  | [d1, d2, d3] => { results := [.lit (.bool false)], args := [d1, d2, d3] }
  | _ => none }
def FnumBinaryWrongFalsely : Prop := fnumBinaryRow.holds Try.pinned (OpenSpec.ofChange fnumBinaryWrong)

/-- 'ratchetlaw04.FnumOrder': WHATEVER THE INPUT: true; the input reads as it did. -/
def fnumOrderSpec : ChangeSpec := { name := "fnumOrder", fn := fun _ => fun
  | [d1, d2, d3] => { results := [.lit (.bool true)], args := [d1, d2, d3] }
  | _ => none }
def fnumOrderRow : OpenClaim := { program := "ytapfapngcncaeaa", sum := "529c0bb3ccace004de28f9fca87dd53cfd83002f4a73e7ca35b73a4c789a0cfe", func := "ratchet/ratchetlaw04.FnumOrder", spec := "fnumOrder", inPlace := ["math.Float32frombits", "math.Float32bits", "math.Float64bits", "math.Float64frombits"], apart := false }
def FnumOrderSaid : Prop := fnumOrderRow.holds Try.pinned (OpenSpec.ofChange fnumOrderSpec)

/-- ITS FALSE NEIGHBOUR: 'it returns false'. Refute it at one input. -/
def fnumOrderWrong : ChangeSpec := { name := "fnumOrder", fn := fun _ => fun
  | [d1, d2, d3] => { results := [.lit (.bool false)], args := [d1, d2, d3] }
  | _ => none }
def FnumOrderWrongFalsely : Prop := fnumOrderRow.holds Try.pinned (OpenSpec.ofChange fnumOrderWrong)

/-- 'ratchetlaw04.FnumConvert': WHATEVER THE INPUT: true; the input reads as it did. -/
def fnumConvertSpec : ChangeSpec := { name := "fnumConvert", fn := fun _ => fun
  | [d1, d2] => { results := [.lit (.bool true)], args := [d1, d2] }
  | _ => none }
def fnumConvertRow : OpenClaim := { program := "ytapfapngcncaeaa", sum := "529c0bb3ccace004de28f9fca87dd53cfd83002f4a73e7ca35b73a4c789a0cfe", func := "ratchet/ratchetlaw04.FnumConvert", spec := "fnumConvert", inPlace := ["math.Float32frombits", "math.Float64frombits", "math.archTrunc", "math.Float64bits", "math.Float32bits"], apart := false }
def FnumConvertSaid : Prop := fnumConvertRow.holds Try.pinned (OpenSpec.ofChange fnumConvertSpec)

/-- ITS FALSE NEIGHBOUR: 'it returns false'. Refute it at one input. -/
def fnumConvertWrong : ChangeSpec := { name := "fnumConvert", fn := fun _ => fun
  | [d1, d2] => { results := [.lit (.bool false)], args := [d1, d2] }
  | _ => none }
def FnumConvertWrongFalsely : Prop := fnumConvertRow.holds Try.pinned (OpenSpec.ofChange fnumConvertWrong)

/-- 'ratchetlaw04.FnumUnary': WHATEVER THE INPUT: true; the input reads as it did. -/
def fnumUnarySpec : ChangeSpec := { name := "fnumUnary", fn := fun _ => fun
  | [d1, d2] => { results := [.lit (.bool true)], args := [d1, d2] }
  | _ => none }
def fnumUnaryRow : OpenClaim := { program := "ytapfapngcncaeaa", sum := "529c0bb3ccace004de28f9fca87dd53cfd83002f4a73e7ca35b73a4c789a0cfe", func := "ratchet/ratchetlaw04.FnumUnary", spec := "fnumUnary", inPlace := ["math.Float32frombits", "math.sqrt", "math.Float32bits", "math.Float64bits", "math.archCeil", "math.archFloor", "math.Float64frombits", "math.archTrunc", "math.RoundToEven"], apart := false }
def FnumUnarySaid : Prop := fnumUnaryRow.holds Try.pinned (OpenSpec.ofChange fnumUnarySpec)

/-- ITS FALSE NEIGHBOUR: 'it returns false'. Refute it at one input. -/
def fnumUnaryWrong : ChangeSpec := { name := "fnumUnary", fn := fun _ => fun
  | [d1, d2] => { results := [.lit (.bool false)], args := [d1, d2] }
  | _ => none }
def FnumUnaryWrongFalsely : Prop := fnumUnaryRow.holds Try.pinned (OpenSpec.ofChange fnumUnaryWrong)

/-- 'ratchetlaw04.FnumTurns': WHATEVER THE INPUT: true; the input reads as it did. -/
def fnumTurnsSpec : ChangeSpec := { name := "fnumTurns", fn := fun _ => fun
  | [d1, d2, d3] => { results := [.lit (.bool true)], args := [d1, d2, d3] }
  | _ => none }
def fnumTurnsRow : OpenClaim := { program := "ytapfapngcncaeaa", sum := "529c0bb3ccace004de28f9fca87dd53cfd83002f4a73e7ca35b73a4c789a0cfe", func := "ratchet/ratchetlaw04.FnumTurns", spec := "fnumTurns", inPlace := ["math.Float32frombits", "math.Float32bits", "math.Float64bits", "math.Float64frombits", "math.sqrt", "math.archCeil", "math.archFloor", "math.archTrunc", "math.RoundToEven"], apart := false }
def FnumTurnsSaid : Prop := fnumTurnsRow.holds Try.pinned (OpenSpec.ofChange fnumTurnsSpec)

/-- ITS FALSE NEIGHBOUR: 'it returns false'. Refute it at one input. -/
def fnumTurnsWrong : ChangeSpec := { name := "fnumTurns", fn := fun _ => fun
  | [d1, d2, d3] => { results := [.lit (.bool false)], args := [d1, d2, d3] }
  | _ => none }
def FnumTurnsWrongFalsely : Prop := fnumTurnsRow.holds Try.pinned (OpenSpec.ofChange fnumTurnsWrong)

/-- 'ratchetlaw04.FnumThere': WHATEVER THE INPUT: true; the input reads as it did. -/
def fnumThereSpec : ChangeSpec := { name := "fnumThere", fn := fun _ => fun
  | [d] => { results := [.lit (.bool true)], args := [d] }
  | _ => none }
def fnumThereRow : OpenClaim := { program := "ytapfapngcncaeaa", sum := "529c0bb3ccace004de28f9fca87dd53cfd83002f4a73e7ca35b73a4c789a0cfe", func := "ratchet/ratchetlaw04.FnumThere", spec := "fnumThere", inPlace := ["math.Float32frombits", "math.Float32bits", "math.Float64bits", "math.Float64frombits", "math.archTrunc"], apart := false }
def FnumThereSaid : Prop := fnumThereRow.holds Try.pinned (OpenSpec.ofChange fnumThereSpec)

/-- ITS FALSE NEIGHBOUR: 'it returns false'. Refute it at one input. -/
def fnumThereWrong : ChangeSpec := { name := "fnumThere", fn := fun _ => fun
  | [d] => { results := [.lit (.bool false)], args := [d] }
  | _ => none }
def FnumThereWrongFalsely : Prop := fnumThereRow.holds Try.pinned (OpenSpec.ofChange fnumThereWrong)

/-- 'ratchetlaw04.FnumOne': WHATEVER THE INPUT: true; the input reads as it did. -/
def fnumOneSpec : ChangeSpec := { name := "fnumOne", fn := fun _ => fun
  | [d1, d2, d3] => { results := [.lit (.bool true)], args := [d1, d2, d3] }
  | _ => none }
def fnumOneRow : OpenClaim := { program := "ytapfapngcncaeaa", sum := "529c0bb3ccace004de28f9fca87dd53cfd83002f4a73e7ca35b73a4c789a0cfe", func := "ratchet/ratchetlaw04.FnumOne", spec := "fnumOne", inPlace := ["math.Float32frombits", "math.Float32bits", "math.Float64bits", "math.Float64frombits", "math.sqrt", "math.archCeil", "math.archFloor", "math.archTrunc", "math.RoundToEven"], apart := false }
def FnumOneSaid : Prop := fnumOneRow.holds Try.pinned (OpenSpec.ofChange fnumOneSpec)

/-- ITS FALSE NEIGHBOUR: 'it returns false'. Refute it at one input. -/
def fnumOneWrong : ChangeSpec := { name := "fnumOne", fn := fun _ => fun
  | [d1, d2, d3] => { results := [.lit (.bool false)], args := [d1, d2, d3] }
  | _ => none }
def FnumOneWrongFalsely : Prop := fnumOneRow.holds Try.pinned (OpenSpec.ofChange fnumOneWrong)

/- THE SECOND FORM. 'bulk': how many values and letters a reading holds, each counted each time it is reached (what is shared counts as often as it is met; a slice's spare places count too). A statement '..UptoSaid' is the law's where the arguments, and the package variables that the reading takes, are together of bulk at most 1048576: NARROWER than '..Said'. Prove '..Said' where nothing that the law and all that it calls make is longer than what came in: it says more and counts as full. Else prove '..UptoSaid'. A law counts once. -/
mutual
def uptoBulk {H : Type} : DataW H → Nat
  | .lit (.string bytes) => bytes.length + 1
  | .lit _ => 1
  | .nil => 1
  | .ptr d => uptoBulk d + 1
  | .slice elems spare => uptoBulkAll elems + uptoBulkAll spare + 1
  | .agg parts => uptoBulkAll parts + 1
  | .iface _ d => uptoBulk d + 1
  | .map entries => uptoBulkEntries entries + 1
  | .held _ => 1
def uptoBulkAll {H : Type} : List (DataW H) → Nat
  | [] => 0
  | d :: r => uptoBulk d + uptoBulkAll r
def uptoBulkEntries {H : Type} : List (Lit × DataW H) → Nat
  | [] => 0
  | x :: r => uptoBulkEntry x + uptoBulkEntries r
def uptoBulkEntry {H : Type} : Lit × DataW H → Nat
  | (.string bytes, d) => bytes.length + uptoBulk d + 1
  | (_, d) => uptoBulk d + 1
 end
def uptoSmall : (H : Type) → List (DataW H) → Bool := fun _ ds => decide (uptoBulkAll ds ≤ 1048576)
def OpenSpec.upto (s : _root_.Go.ChangeSpec) : _root_.Go.OpenSpec := { _root_.Go.OpenSpec.ofChange s with cond := some uptoSmall }

/-- 'ratchetlaw04.FnumNans', WHERE WHAT IT READS IS OF BULK AT MOST 1048576: true; the input reads as it did. -/
def fnumNansUptoRow : OpenClaim := { program := "ytapfapngcncaeaa", sum := "529c0bb3ccace004de28f9fca87dd53cfd83002f4a73e7ca35b73a4c789a0cfe", func := "ratchet/ratchetlaw04.FnumNans", spec := "fnumNans", inPlace := ["math.Float32frombits", "math.Float64frombits"], apart := false, narrowed := true }
def FnumNansUptoSaid : Prop := fnumNansUptoRow.holds Try.pinned (OpenSpec.upto fnumNansSpec)

/-- 'ratchetlaw20.CastBits', WHERE WHAT IT READS IS OF BULK AT MOST 1048576: true; the input reads as it did. -/
def castBitsUptoRow : OpenClaim := { program := "ytapfapngcncaeaa", sum := "529c0bb3ccace004de28f9fca87dd53cfd83002f4a73e7ca35b73a4c789a0cfe", func := "ratchet/ratchetlaw20.CastBits", spec := "castBits", apart := false, narrowed := true }
def CastBitsUptoSaid : Prop := castBitsUptoRow.holds Try.pinned (OpenSpec.upto castBitsSpec)

/-- 'ratchetlaw20.CastTurns', WHERE WHAT IT READS IS OF BULK AT MOST 1048576: true; the input reads as it did. -/
def castTurnsUptoRow : OpenClaim := { program := "ytapfapngcncaeaa", sum := "529c0bb3ccace004de28f9fca87dd53cfd83002f4a73e7ca35b73a4c789a0cfe", func := "ratchet/ratchetlaw20.CastTurns", spec := "castTurns", apart := false, narrowed := true }
def CastTurnsUptoSaid : Prop := castTurnsUptoRow.holds Try.pinned (OpenSpec.upto castTurnsSpec)

/-- 'ratchetlaw04.FnumCompare', WHERE WHAT IT READS IS OF BULK AT MOST 1048576: true; the input reads as it did. -/
def fnumCompareUptoRow : OpenClaim := { program := "ytapfapngcncaeaa", sum := "529c0bb3ccace004de28f9fca87dd53cfd83002f4a73e7ca35b73a4c789a0cfe", func := "ratchet/ratchetlaw04.FnumCompare", spec := "fnumCompare", inPlace := ["math.Float32frombits", "math.Float64frombits"], apart := false, narrowed := true }
def FnumCompareUptoSaid : Prop := fnumCompareUptoRow.holds Try.pinned (OpenSpec.upto fnumCompareSpec)

/-- 'ratchetlaw04.FnumBinary', WHERE WHAT IT READS IS OF BULK AT MOST 1048576: true; the input reads as it did. -/
def fnumBinaryUptoRow : OpenClaim := { program := "ytapfapngcncaeaa", sum := "529c0bb3ccace004de28f9fca87dd53cfd83002f4a73e7ca35b73a4c789a0cfe", func := "ratchet/ratchetlaw04.FnumBinary", spec := "fnumBinary", inPlace := ["math.Float32frombits", "math.Float32bits", "math.Float64bits", "math.Float64frombits"], apart := false, narrowed := true }
def FnumBinaryUptoSaid : Prop := fnumBinaryUptoRow.holds Try.pinned (OpenSpec.upto fnumBinarySpec)

/-- 'ratchetlaw04.FnumOrder', WHERE WHAT IT READS IS OF BULK AT MOST 1048576: true; the input reads as it did. -/
def fnumOrderUptoRow : OpenClaim := { program := "ytapfapngcncaeaa", sum := "529c0bb3ccace004de28f9fca87dd53cfd83002f4a73e7ca35b73a4c789a0cfe", func := "ratchet/ratchetlaw04.FnumOrder", spec := "fnumOrder", inPlace := ["math.Float32frombits", "math.Float32bits", "math.Float64bits", "math.Float64frombits"], apart := false, narrowed := true }
def FnumOrderUptoSaid : Prop := fnumOrderUptoRow.holds Try.pinned (OpenSpec.upto fnumOrderSpec)

/-- 'ratchetlaw04.FnumConvert', WHERE WHAT IT READS IS OF BULK AT MOST 1048576: true; the input reads as it did. -/
def fnumConvertUptoRow : OpenClaim := { program := "ytapfapngcncaeaa", sum := "529c0bb3ccace004de28f9fca87dd53cfd83002f4a73e7ca35b73a4c789a0cfe", func := "ratchet/ratchetlaw04.FnumConvert", spec := "fnumConvert", inPlace := ["math.Float32frombits", "math.Float64frombits", "math.archTrunc", "math.Float64bits", "math.Float32bits"], apart := false, narrowed := true }
def FnumConvertUptoSaid : Prop := fnumConvertUptoRow.holds Try.pinned (OpenSpec.upto fnumConvertSpec)

/-- 'ratchetlaw04.FnumUnary', WHERE WHAT IT READS IS OF BULK AT MOST 1048576: true; the input reads as it did. -/
def fnumUnaryUptoRow : OpenClaim := { program := "ytapfapngcncaeaa", sum := "529c0bb3ccace004de28f9fca87dd53cfd83002f4a73e7ca35b73a4c789a0cfe", func := "ratchet/ratchetlaw04.FnumUnary", spec := "fnumUnary", inPlace := ["math.Float32frombits", "math.sqrt", "math.Float32bits", "math.Float64bits", "math.archCeil", "math.archFloor", "math.Float64frombits", "math.archTrunc", "math.RoundToEven"], apart := false, narrowed := true }
def FnumUnaryUptoSaid : Prop := fnumUnaryUptoRow.holds Try.pinned (OpenSpec.upto fnumUnarySpec)

/-- 'ratchetlaw04.FnumTurns', WHERE WHAT IT READS IS OF BULK AT MOST 1048576: true; the input reads as it did. -/
def fnumTurnsUptoRow : OpenClaim := { program := "ytapfapngcncaeaa", sum := "529c0bb3ccace004de28f9fca87dd53cfd83002f4a73e7ca35b73a4c789a0cfe", func := "ratchet/ratchetlaw04.FnumTurns", spec := "fnumTurns", inPlace := ["math.Float32frombits", "math.Float32bits", "math.Float64bits", "math.Float64frombits", "math.sqrt", "math.archCeil", "math.archFloor", "math.archTrunc", "math.RoundToEven"], apart := false, narrowed := true }
def FnumTurnsUptoSaid : Prop := fnumTurnsUptoRow.holds Try.pinned (OpenSpec.upto fnumTurnsSpec)

/-- 'ratchetlaw04.FnumThere', WHERE WHAT IT READS IS OF BULK AT MOST 1048576: true; the input reads as it did. -/
def fnumThereUptoRow : OpenClaim := { program := "ytapfapngcncaeaa", sum := "529c0bb3ccace004de28f9fca87dd53cfd83002f4a73e7ca35b73a4c789a0cfe", func := "ratchet/ratchetlaw04.FnumThere", spec := "fnumThere", inPlace := ["math.Float32frombits", "math.Float32bits", "math.Float64bits", "math.Float64frombits", "math.archTrunc"], apart := false, narrowed := true }
def FnumThereUptoSaid : Prop := fnumThereUptoRow.holds Try.pinned (OpenSpec.upto fnumThereSpec)

/-- 'ratchetlaw04.FnumOne', WHERE WHAT IT READS IS OF BULK AT MOST 1048576: true; the input reads as it did. -/
def fnumOneUptoRow : OpenClaim := { program := "ytapfapngcncaeaa", sum := "529c0bb3ccace004de28f9fca87dd53cfd83002f4a73e7ca35b73a4c789a0cfe", func := "ratchet/ratchetlaw04.FnumOne", spec := "fnumOne", inPlace := ["math.Float32frombits", "math.Float32bits", "math.Float64bits", "math.Float64frombits", "math.sqrt", "math.archCeil", "math.archFloor", "math.archTrunc", "math.RoundToEven"], apart := false, narrowed := true }
def FnumOneUptoSaid : Prop := fnumOneUptoRow.holds Try.pinned (OpenSpec.upto fnumOneSpec)

end Rows
end Go.Proofs.Ytapfapngcncaeaa
