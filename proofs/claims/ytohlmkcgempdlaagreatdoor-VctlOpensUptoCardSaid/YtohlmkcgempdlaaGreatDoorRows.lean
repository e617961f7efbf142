/-
  NARROWER THAN 'FOR EVERY INPUT', by the rows' own cells (each row's printed sentence says how): VctlOpens: loops, laid · VctlDead: loops, laid · VctlAway: loops, laid · VctlSteps: loops, laid · VctlTypes: laid.
  DERIVED. THE GIVEN ROWS OF THIS SEAT. 5 by the template 'for every input the law returns true; each argument reads behind the call as it read before'; 0 by the template 'total and deterministic' (their statements: YtohlmkcgempdlaaGreatDoorTotals.lean).
  GIVEN WITH THE SEED: the statements are not yours to turn. If you find one false, say at which input.
  Laid BY PROGRAM, IN A SANDBOX (cutbox-rows.mjs): the forced cells as the released guide's own fill.sh prints them over the translation 7e4cadb07fdb939b… (all of the seat's roots in one cut). By AI agents, Wed Nov 11 2026. No macro, syntax, notation, axiom, sorry.
-/
import Derived.Test.YtohlmkcgempdlaaGreatDoorChecked
import GoSem.Claim
import GoSem.ClaimJoined
import GoSem.ClaimMapViews
import Derived.JoinedTies
import Derived.KernelRfl
namespace Go.Proofs.YtohlmkcgempdlaaGreatDoor
/- THE CELL 'sum', in the pinned program and in every row, IS THE sha256 OF THE DUMP (.gsa) THAT YtohlmkcgempdlaaGreatDoorProg.lean LOADS. Nothing in Lean hashes anything: it is a label: what it is worth is what the hold of that sum in a sandbox is worth. -/
noncomputable def Tryz.pinned : Pinned := { name := "ytohlmkcgempdlaagreatdoor", sum := "7e4cadb07fdb939b3d1559f74b7925e822bdb06d4c997d8989134c4da147a021", checked := Tryz.checked }
namespace Rows
def none {H : Type} : Left H := { results := [], args := [] }

/- WHAT THE LISTED PACKAGE-LEVEL VARIABLES READ AS WHEN THE CALL BEGINS. Each datum BY PROGRAM (the guide's laid-datum.mjs) off the statement by which the dump's own 'gosem.cut.vars' lays the variable. In a bare row this is a premise. The card (YtohlmkcgempdlaaGreatDoorCards.lean) ties it to the program's text. -/
def laid_math_bits_deBruijn32tab {H : Type} : DataW H := .agg [.lit (.int .u8 0), .lit (.int .u8 1), .lit (.int .u8 28), .lit (.int .u8 2), .lit (.int .u8 29), .lit (.int .u8 14), .lit (.int .u8 24), .lit (.int .u8 3), .lit (.int .u8 30), .lit (.int .u8 22), .lit (.int .u8 20), .lit (.int .u8 15), .lit (.int .u8 25), .lit (.int .u8 17), .lit (.int .u8 4), .lit (.int .u8 8), .lit (.int .u8 31), .lit (.int .u8 27), .lit (.int .u8 13), .lit (.int .u8 23), .lit (.int .u8 21), .lit (.int .u8 19), .lit (.int .u8 16), .lit (.int .u8 7), .lit (.int .u8 26), .lit (.int .u8 12), .lit (.int .u8 18), .lit (.int .u8 6), .lit (.int .u8 11), .lit (.int .u8 5), .lit (.int .u8 10), .lit (.int .u8 9)]
def laid_math_bits_deBruijn64tab {H : Type} : DataW H := .agg [.lit (.int .u8 0), .lit (.int .u8 1), .lit (.int .u8 56), .lit (.int .u8 2), .lit (.int .u8 57), .lit (.int .u8 49), .lit (.int .u8 28), .lit (.int .u8 3), .lit (.int .u8 61), .lit (.int .u8 58), .lit (.int .u8 42), .lit (.int .u8 50), .lit (.int .u8 38), .lit (.int .u8 29), .lit (.int .u8 17), .lit (.int .u8 4), .lit (.int .u8 62), .lit (.int .u8 47), .lit (.int .u8 59), .lit (.int .u8 36), .lit (.int .u8 45), .lit (.int .u8 43), .lit (.int .u8 51), .lit (.int .u8 22), .lit (.int .u8 53), .lit (.int .u8 39), .lit (.int .u8 33), .lit (.int .u8 30), .lit (.int .u8 24), .lit (.int .u8 18), .lit (.int .u8 12), .lit (.int .u8 5), .lit (.int .u8 63), .lit (.int .u8 55), .lit (.int .u8 48), .lit (.int .u8 27), .lit (.int .u8 60), .lit (.int .u8 41), .lit (.int .u8 37), .lit (.int .u8 16), .lit (.int .u8 46), .lit (.int .u8 35), .lit (.int .u8 44), .lit (.int .u8 21), .lit (.int .u8 52), .lit (.int .u8 32), .lit (.int .u8 23), .lit (.int .u8 11), .lit (.int .u8 54), .lit (.int .u8 26), .lit (.int .u8 40), .lit (.int .u8 15), .lit (.int .u8 34), .lit (.int .u8 20), .lit (.int .u8 31), .lit (.int .u8 10), .lit (.int .u8 25), .lit (.int .u8 14), .lit (.int .u8 19), .lit (.int .u8 9), .lit (.int .u8 13), .lit (.int .u8 8), .lit (.int .u8 7), .lit (.int .u8 6)]
def laid_internal_strconv_uint64pow10 {H : Type} : DataW H := .agg [.lit (.int .u64 1), .lit (.int .u64 10), .lit (.int .u64 100), .lit (.int .u64 1000), .lit (.int .u64 10000), .lit (.int .u64 100000), .lit (.int .u64 1000000), .lit (.int .u64 10000000), .lit (.int .u64 100000000), .lit (.int .u64 1000000000), .lit (.int .u64 10000000000), .lit (.int .u64 100000000000), .lit (.int .u64 1000000000000), .lit (.int .u64 10000000000000), .lit (.int .u64 100000000000000), .lit (.int .u64 1000000000000000), .lit (.int .u64 10000000000000000), .lit (.int .u64 100000000000000000), .lit (.int .u64 1000000000000000000), .lit (.int .u64 10000000000000000000)]

/-- 'ratchetlaw15.VctlOpens': WHATEVER THE INPUT: true; the input reads as it did. -/
def vctlOpensSpec : ChangeSpec := { name := "vctlOpens", fn := fun _ => fun
  | [d1, d2] => { results := [.lit (.bool true)], args := [d1, d2] }
  | _ => none }
def vctlOpensRow : OpenClaim := { program := "ytohlmkcgempdlaagreatdoor", sum := "7e4cadb07fdb939b3d1559f74b7925e822bdb06d4c997d8989134c4da147a021", func := "ratchet/ratchetlaw15.VctlOpens", spec := "vctlOpens", unfollowed := true, recurses := true, named := ["internal/strconv.uint64pow10", "math/bits.deBruijn32tab", "math/bits.deBruijn64tab"], loops := true, apart := false, laid := [("math/bits.deBruijn32tab", laid_math_bits_deBruijn32tab), ("math/bits.deBruijn64tab", laid_math_bits_deBruijn64tab), ("internal/strconv.uint64pow10", laid_internal_strconv_uint64pow10)] }
def VctlOpensSaid : Prop := vctlOpensRow.holds Tryz.pinned (OpenSpec.ofChange vctlOpensSpec)

/-- ITS FALSE NEIGHBOUR: 'it returns false'. Refute it at one input. -/
def vctlOpensWrong : ChangeSpec := { name := "vctlOpens", fn := fun _ => fun
  | [d1, d2] => { results := [.lit (.bool false)], args := [d1, d2] }
  | _ => none }
def VctlOpensWrongFalsely : Prop := vctlOpensRow.holds Tryz.pinned (OpenSpec.ofChange vctlOpensWrong)

/-- 'ratchetlaw15.VctlDead': WHATEVER THE INPUT: true; the input reads as it did. -/
def vctlDeadSpec : ChangeSpec := { name := "vctlDead", fn := fun _ => fun
  | [d1, d2] => { results := [.lit (.bool true)], args := [d1, d2] }
  | _ => none }
def vctlDeadRow : OpenClaim := { program := "ytohlmkcgempdlaagreatdoor", sum := "7e4cadb07fdb939b3d1559f74b7925e822bdb06d4c997d8989134c4da147a021", func := "ratchet/ratchetlaw15.VctlDead", spec := "vctlDead", unfollowed := true, recurses := true, named := ["internal/strconv.uint64pow10", "math/bits.deBruijn32tab", "math/bits.deBruijn64tab"], loops := true, apart := false, laid := [("math/bits.deBruijn32tab", laid_math_bits_deBruijn32tab), ("math/bits.deBruijn64tab", laid_math_bits_deBruijn64tab), ("internal/strconv.uint64pow10", laid_internal_strconv_uint64pow10)] }
def VctlDeadSaid : Prop := vctlDeadRow.holds Tryz.pinned (OpenSpec.ofChange vctlDeadSpec)

/-- ITS FALSE NEIGHBOUR: 'it returns false'. Refute it at one input. -/
def vctlDeadWrong : ChangeSpec := { name := "vctlDead", fn := fun _ => fun
  | [d1, d2] => { results := [.lit (.bool false)], args := [d1, d2] }
  | _ => none }
def VctlDeadWrongFalsely : Prop := vctlDeadRow.holds Tryz.pinned (OpenSpec.ofChange vctlDeadWrong)

/-- 'ratchetlaw15.VctlAway': WHATEVER THE INPUT: true; the input reads as it did. -/
def vctlAwaySpec : ChangeSpec := { name := "vctlAway", fn := fun _ => fun
  | [d1, d2] => { results := [.lit (.bool true)], args := [d1, d2] }
  | _ => none }
def vctlAwayRow : OpenClaim := { program := "ytohlmkcgempdlaagreatdoor", sum := "7e4cadb07fdb939b3d1559f74b7925e822bdb06d4c997d8989134c4da147a021", func := "ratchet/ratchetlaw15.VctlAway", spec := "vctlAway", unfollowed := true, recurses := true, named := ["internal/strconv.uint64pow10", "math/bits.deBruijn32tab", "math/bits.deBruijn64tab"], loops := true, apart := false, laid := [("math/bits.deBruijn32tab", laid_math_bits_deBruijn32tab), ("math/bits.deBruijn64tab", laid_math_bits_deBruijn64tab), ("internal/strconv.uint64pow10", laid_internal_strconv_uint64pow10)] }
def VctlAwaySaid : Prop := vctlAwayRow.holds Tryz.pinned (OpenSpec.ofChange vctlAwaySpec)

/-- ITS FALSE NEIGHBOUR: 'it returns false'. Refute it at one input. -/
def vctlAwayWrong : ChangeSpec := { name := "vctlAway", fn := fun _ => fun
  | [d1, d2] => { results := [.lit (.bool false)], args := [d1, d2] }
  | _ => none }
def VctlAwayWrongFalsely : Prop := vctlAwayRow.holds Tryz.pinned (OpenSpec.ofChange vctlAwayWrong)

/-- 'ratchetlaw15.VctlSteps': WHATEVER THE INPUT: true; the input reads as it did. -/
def vctlStepsSpec : ChangeSpec := { name := "vctlSteps", fn := fun _ => fun
  | [d1, d2] => { results := [.lit (.bool true)], args := [d1, d2] }
  | _ => none }
def vctlStepsRow : OpenClaim := { program := "ytohlmkcgempdlaagreatdoor", sum := "7e4cadb07fdb939b3d1559f74b7925e822bdb06d4c997d8989134c4da147a021", func := "ratchet/ratchetlaw15.VctlSteps", spec := "vctlSteps", unfollowed := true, recurses := true, named := ["internal/strconv.uint64pow10", "math/bits.deBruijn32tab", "math/bits.deBruijn64tab"], loops := true, apart := false, laid := [("math/bits.deBruijn32tab", laid_math_bits_deBruijn32tab), ("math/bits.deBruijn64tab", laid_math_bits_deBruijn64tab), ("internal/strconv.uint64pow10", laid_internal_strconv_uint64pow10)] }
def VctlStepsSaid : Prop := vctlStepsRow.holds Tryz.pinned (OpenSpec.ofChange vctlStepsSpec)

/-- ITS FALSE NEIGHBOUR: 'it returns false'. Refute it at one input. -/
def vctlStepsWrong : ChangeSpec := { name := "vctlSteps", fn := fun _ => fun
  | [d1, d2] => { results := [.lit (.bool false)], args := [d1, d2] }
  | _ => none }
def VctlStepsWrongFalsely : Prop := vctlStepsRow.holds Tryz.pinned (OpenSpec.ofChange vctlStepsWrong)

/-- 'ratchetlaw15.VctlTypes': WHATEVER THE INPUT: true; the input reads as it did. -/
def vctlTypesSpec : ChangeSpec := { name := "vctlTypes", fn := fun _ => fun
  | [d1, d2, d3, d4] => { results := [.lit (.bool true)], args := [d1, d2, d3, d4] }
  | _ => none }
def vctlTypesRow : OpenClaim := { program := "ytohlmkcgempdlaagreatdoor", sum := "7e4cadb07fdb939b3d1559f74b7925e822bdb06d4c997d8989134c4da147a021", func := "ratchet/ratchetlaw15.VctlTypes", spec := "vctlTypes", unfollowed := true, recurses := true, named := ["internal/strconv.uint64pow10", "math/bits.deBruijn32tab", "math/bits.deBruijn64tab"], apart := false, laid := [("math/bits.deBruijn32tab", laid_math_bits_deBruijn32tab), ("math/bits.deBruijn64tab", laid_math_bits_deBruijn64tab), ("internal/strconv.uint64pow10", laid_internal_strconv_uint64pow10)] }
def VctlTypesSaid : Prop := vctlTypesRow.holds Tryz.pinned (OpenSpec.ofChange vctlTypesSpec)

/-- ITS FALSE NEIGHBOUR: 'it returns false'. Refute it at one input. -/
def vctlTypesWrong : ChangeSpec := { name := "vctlTypes", fn := fun _ => fun
  | [d1, d2, d3, d4] => { results := [.lit (.bool false)], args := [d1, d2, d3, d4] }
  | _ => none }
def VctlTypesWrongFalsely : Prop := vctlTypesRow.holds Tryz.pinned (OpenSpec.ofChange vctlTypesWrong)

/- THE SECOND FORM. 'bulk': how many values and letters a reading holds, each counted each time it is reached (what is shared counts as often as it is met; a slice's spare places count too). A statement '..UptoSaid' is the law's where the arguments, and the package variables that the reading takes, are together of bulk at most 1048576: NARROWER than '..Said'. Prove '..Said' where nothing that the law and all that it calls make is longer than what came in: it says more and counts as full. Else prove '..UptoSaid'. A law counts once. -/
mutual
def uptoBulk {H : Type} : DataW H → Nat
  | .lit (.string bytes) => bytes.length + 1
  | .lit _ => 1
  | .nil => 1
  | .ptr d => uptoBulk d + 1
  | .slice elems spare => uptoBulkAll elems + uptoBulkAll spare + 1
  | .agg parts => uptoBulkAll parts + 1
  | .iface _ d => uptoBulk d + 1
  | .map entries => uptoBulkEntries entries + 1
  | .held _ => 1
def uptoBulkAll {H : Type} : List (DataW H) → Nat
  | [] => 0
  | d :: r => uptoBulk d + uptoBulkAll r
def uptoBulkEntries {H : Type} : List (Lit × DataW H) → Nat
  | [] => 0
  | x :: r => uptoBulkEntry x + uptoBulkEntries r
def uptoBulkEntry {H : Type} : Lit × DataW H → Nat
  | (.string bytes, d) => bytes.length + uptoBulk d + 1
  | (_, d) => uptoBulk d + 1
 end
def uptoSmall : (H : Type) → List (DataW H) → Bool := fun _ ds => decide (uptoBulkAll ds ≤ 1048576)
def OpenSpec.upto (s : _root_.Go.ChangeSpec) : _root_.Go.OpenSpec := { _root_.Go.OpenSpec.ofChange s with cond := some uptoSmall }

/-- 'ratchetlaw15.VctlOpens', WHERE WHAT IT READS IS OF BULK AT MOST 1048576: true; the input reads as it did. -/
def vctlOpensUptoRow : OpenClaim := { program := "ytohlmkcgempdlaagreatdoor", sum := "7e4cadb07fdb939b3d1559f74b7925e822bdb06d4c997d8989134c4da147a021", func := "ratchet/ratchetlaw15.VctlOpens", spec := "vctlOpens", unfollowed := true, recurses := true, named := ["internal/strconv.uint64pow10", "math/bits.deBruijn32tab", "math/bits.deBruijn64tab"], loops := true, apart := false, laid := [("math/bits.deBruijn32tab", laid_math_bits_deBruijn32tab), ("math/bits.deBruijn64tab", laid_math_bits_deBruijn64tab), ("internal/strconv.uint64pow10", laid_internal_strconv_uint64pow10)], narrowed := true }
def VctlOpensUptoSaid : Prop := vctlOpensUptoRow.holds Tryz.pinned (OpenSpec.upto vctlOpensSpec)

/-- 'ratchetlaw15.VctlDead', WHERE WHAT IT READS IS OF BULK AT MOST 1048576: true; the input reads as it did. -/
def vctlDeadUptoRow : OpenClaim := { program := "ytohlmkcgempdlaagreatdoor", sum := "7e4cadb07fdb939b3d1559f74b7925e822bdb06d4c997d8989134c4da147a021", func := "ratchet/ratchetlaw15.VctlDead", spec := "vctlDead", unfollowed := true, recurses := true, named := ["internal/strconv.uint64pow10", "math/bits.deBruijn32tab", "math/bits.deBruijn64tab"], loops := true, apart := false, laid := [("math/bits.deBruijn32tab", laid_math_bits_deBruijn32tab), ("math/bits.deBruijn64tab", laid_math_bits_deBruijn64tab), ("internal/strconv.uint64pow10", laid_internal_strconv_uint64pow10)], narrowed := true }
def VctlDeadUptoSaid : Prop := vctlDeadUptoRow.holds Tryz.pinned (OpenSpec.upto vctlDeadSpec)

/-- 'ratchetlaw15.VctlAway', WHERE WHAT IT READS IS OF BULK AT MOST 1048576: true; the input reads as it did. -/
def vctlAwayUptoRow : OpenClaim := { program := "ytohlmkcgempdlaagreatdoor", sum := "7e4cadb07fdb939b3d1559f74b7925e822bdb06d4c997d8989134c4da147a021", func := "ratchet/ratchetlaw15.VctlAway", spec := "vctlAway", unfollowed := true, recurses := true, named := ["internal/strconv.uint64pow10", "math/bits.deBruijn32tab", "math/bits.deBruijn64tab"], loops := true, apart := false, laid := [("math/bits.deBruijn32tab", laid_math_bits_deBruijn32tab), ("math/bits.deBruijn64tab", laid_math_bits_deBruijn64tab), ("internal/strconv.uint64pow10", laid_internal_strconv_uint64pow10)], narrowed := true }
def VctlAwayUptoSaid : Prop := vctlAwayUptoRow.holds Tryz.pinned (OpenSpec.upto vctlAwaySpec)

/-- 'ratchetlaw15.VctlSteps', WHERE WHAT IT READS IS OF BULK AT MOST 1048576: true; the input reads as it did. -/
def vctlStepsUptoRow : OpenClaim := { program := "ytohlmkcgempdlaagreatdoor", sum := "7e4cadb07fdb939b3d1559f74b7925e822bdb06d4c997d8989134c4da147a021", func := "ratchet/ratchetlaw15.VctlSteps", spec := "vctlSteps", unfollowed := true, recurses := true, named := ["internal/strconv.uint64pow10", "math/bits.deBruijn32tab", "math/bits.deBruijn64tab"], loops := true, apart := false, laid := [("math/bits.deBruijn32tab", laid_math_bits_deBruijn32tab), ("math/bits.deBruijn64tab", laid_math_bits_deBruijn64tab), ("internal/strconv.uint64pow10", laid_internal_strconv_uint64pow10)], narrowed := true }
def VctlStepsUptoSaid : Prop := vctlStepsUptoRow.holds Tryz.pinned (OpenSpec.upto vctlStepsSpec)

/-- 'ratchetlaw15.VctlTypes', WHERE WHAT IT READS IS OF BULK AT MOST 1048576: true; the input reads as it did. -/
def vctlTypesUptoRow : OpenClaim := { program := "ytohlmkcgempdlaagreatdoor", sum := "7e4cadb07fdb939b3d1559f74b7925e822bdb06d4c997d8989134c4da147a021", func := "ratchet/ratchetlaw15.VctlTypes", spec := "vctlTypes", unfollowed := true, recurses := true, named := ["internal/strconv.uint64pow10", "math/bits.deBruijn32tab", "math/bits.deBruijn64tab"], apart := false, laid := [("math/bits.deBruijn32tab", laid_math_bits_deBruijn32tab), ("math/bits.deBruijn64tab", laid_math_bits_deBruijn64tab), ("internal/strconv.uint64pow10", laid_internal_strconv_uint64pow10)], narrowed := true }
def VctlTypesUptoSaid : Prop := vctlTypesUptoRow.holds Tryz.pinned (OpenSpec.upto vctlTypesSpec)

end Rows
end Go.Proofs.YtohlmkcgempdlaaGreatDoor
