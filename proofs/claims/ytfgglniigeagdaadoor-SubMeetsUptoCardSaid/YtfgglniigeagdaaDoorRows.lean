/-
  NARROWER THAN 'FOR EVERY INPUT', by the rows' own cells (each row's printed sentence says how): CanonSames: laid · CanonTurns: laid · CanonZero: laid · CanonUnrolled: laid · SubOnes: laid · SubLeads: laid · SubMeets: laid · SubDecls: laid · SubDeep: laid.
  DERIVED. THE GIVEN ROWS OF THIS SEAT. 9 by the template 'for every input the law returns true; each argument reads behind the call as it read before'; 0 by the template 'total and deterministic' (their statements: YtfgglniigeagdaaDoorTotals.lean).
  GIVEN WITH THE SEED: the statements are not yours to turn. If you find one false, say at which input.
  Laid BY PROGRAM, IN A SANDBOX (cutbox-rows.mjs): the forced cells as the released guide's own fill.sh prints them over the translation ebcd12ad77503c8c… (all of the seat's roots in one cut). By AI agents, Wed Nov 11 2026. No macro, syntax, notation, axiom, sorry.
-/
import Derived.Test.YtfgglniigeagdaaDoorChecked
import GoSem.Claim
import GoSem.ClaimJoined
import GoSem.ClaimMapViews
import Derived.JoinedTies
import Derived.KernelRfl
namespace Go.Proofs.YtfgglniigeagdaaDoor
/- THE CELL 'sum', in the pinned program and in every row, IS THE sha256 OF THE DUMP (.gsa) THAT YtfgglniigeagdaaDoorProg.lean LOADS. Nothing in Lean hashes anything: it is a label: what it is worth is what the hold of that sum in a sandbox is worth. -/
noncomputable def Tryd.pinned : Pinned := { name := "ytfgglniigeagdaadoor", sum := "ebcd12ad77503c8c5b2a93f028d00b482c19b7d2b8c325e09fff9f2828ff8006", checked := Tryd.checked }
namespace Rows
def none {H : Type} : Left H := { results := [], args := [] }

/- WHAT THE LISTED PACKAGE-LEVEL VARIABLES READ AS WHEN THE CALL BEGINS. Each datum BY PROGRAM (the guide's laid-datum.mjs) off the statement by which the dump's own 'gosem.cut.vars' lays the variable. In a bare row this is a premise. The card (YtfgglniigeagdaaDoorCards.lean) ties it to the program's text. -/
def laid_math_bits_deBruijn32tab {H : Type} : DataW H := .agg [.lit (.int .u8 0), .lit (.int .u8 1), .lit (.int .u8 28), .lit (.int .u8 2), .lit (.int .u8 29), .lit (.int .u8 14), .lit (.int .u8 24), .lit (.int .u8 3), .lit (.int .u8 30), .lit (.int .u8 22), .lit (.int .u8 20), .lit (.int .u8 15), .lit (.int .u8 25), .lit (.int .u8 17), .lit (.int .u8 4), .lit (.int .u8 8), .lit (.int .u8 31), .lit (.int .u8 27), .lit (.int .u8 13), .lit (.int .u8 23), .lit (.int .u8 21), .lit (.int .u8 19), .lit (.int .u8 16), .lit (.int .u8 7), .lit (.int .u8 26), .lit (.int .u8 12), .lit (.int .u8 18), .lit (.int .u8 6), .lit (.int .u8 11), .lit (.int .u8 5), .lit (.int .u8 10), .lit (.int .u8 9)]
def laid_math_bits_deBruijn64tab {H : Type} : DataW H := .agg [.lit (.int .u8 0), .lit (.int .u8 1), .lit (.int .u8 56), .lit (.int .u8 2), .lit (.int .u8 57), .lit (.int .u8 49), .lit (.int .u8 28), .lit (.int .u8 3), .lit (.int .u8 61), .lit (.int .u8 58), .lit (.int .u8 42), .lit (.int .u8 50), .lit (.int .u8 38), .lit (.int .u8 29), .lit (.int .u8 17), .lit (.int .u8 4), .lit (.int .u8 62), .lit (.int .u8 47), .lit (.int .u8 59), .lit (.int .u8 36), .lit (.int .u8 45), .lit (.int .u8 43), .lit (.int .u8 51), .lit (.int .u8 22), .lit (.int .u8 53), .lit (.int .u8 39), .lit (.int .u8 33), .lit (.int .u8 30), .lit (.int .u8 24), .lit (.int .u8 18), .lit (.int .u8 12), .lit (.int .u8 5), .lit (.int .u8 63), .lit (.int .u8 55), .lit (.int .u8 48), .lit (.int .u8 27), .lit (.int .u8 60), .lit (.int .u8 41), .lit (.int .u8 37), .lit (.int .u8 16), .lit (.int .u8 46), .lit (.int .u8 35), .lit (.int .u8 44), .lit (.int .u8 21), .lit (.int .u8 52), .lit (.int .u8 32), .lit (.int .u8 23), .lit (.int .u8 11), .lit (.int .u8 54), .lit (.int .u8 26), .lit (.int .u8 40), .lit (.int .u8 15), .lit (.int .u8 34), .lit (.int .u8 20), .lit (.int .u8 31), .lit (.int .u8 10), .lit (.int .u8 25), .lit (.int .u8 14), .lit (.int .u8 19), .lit (.int .u8 9), .lit (.int .u8 13), .lit (.int .u8 8), .lit (.int .u8 7), .lit (.int .u8 6)]
def laid_internal_strconv_uint64pow10 {H : Type} : DataW H := .agg [.lit (.int .u64 1), .lit (.int .u64 10), .lit (.int .u64 100), .lit (.int .u64 1000), .lit (.int .u64 10000), .lit (.int .u64 100000), .lit (.int .u64 1000000), .lit (.int .u64 10000000), .lit (.int .u64 100000000), .lit (.int .u64 1000000000), .lit (.int .u64 10000000000), .lit (.int .u64 100000000000), .lit (.int .u64 1000000000000), .lit (.int .u64 10000000000000), .lit (.int .u64 100000000000000), .lit (.int .u64 1000000000000000), .lit (.int .u64 10000000000000000), .lit (.int .u64 100000000000000000), .lit (.int .u64 1000000000000000000), .lit (.int .u64 10000000000000000000)]

/-- 'ratchetlaw06.CanonSames': WHATEVER THE INPUT: true; the input reads as it did. -/
def canonSamesSpec : ChangeSpec := { name := "canonSames", fn := fun _ => fun
  | [d1, d2, d3, d4] => { results := [.lit (.bool true)], args := [d1, d2, d3, d4] }
  | _ => none }
def canonSamesRow : OpenClaim := { program := "ytfgglniigeagdaadoor", sum := "ebcd12ad77503c8c5b2a93f028d00b482c19b7d2b8c325e09fff9f2828ff8006", func := "ratchet/ratchetlaw06.CanonSames", spec := "canonSames", unfollowed := true, recurses := true, named := ["internal/strconv.uint64pow10", "math/bits.deBruijn32tab", "math/bits.deBruijn64tab"], apart := false, laid := [("math/bits.deBruijn32tab", laid_math_bits_deBruijn32tab), ("math/bits.deBruijn64tab", laid_math_bits_deBruijn64tab), ("internal/strconv.uint64pow10", laid_internal_strconv_uint64pow10)] }
def CanonSamesSaid : Prop := canonSamesRow.holds Tryd.pinned (OpenSpec.ofChange canonSamesSpec)

/-- ITS FALSE NEIGHBOUR: 'it returns false'. Refute it at one input. -/
def canonSamesWrong : ChangeSpec := { name := "canonSames", fn := fun _ => fun
  | [d1, d2, d3, d4] => { results := [.lit (.bool false)], args := [d1, d2, d3, d4] }
  | _ => none }
def CanonSamesWrongFalsely : Prop := canonSamesRow.holds Tryd.pinned (OpenSpec.ofChange canonSamesWrong)

/-- 'ratchetlaw06.CanonTurns': WHATEVER THE INPUT: true; the input reads as it did. -/
def canonTurnsSpec : ChangeSpec := { name := "canonTurns", fn := fun _ => fun
  | [d1, d2, d3] => { results := [.lit (.bool true)], args := [d1, d2, d3] }
  | _ => none }
def canonTurnsRow : OpenClaim := { program := "ytfgglniigeagdaadoor", sum := "ebcd12ad77503c8c5b2a93f028d00b482c19b7d2b8c325e09fff9f2828ff8006", func := "ratchet/ratchetlaw06.CanonTurns", spec := "canonTurns", unfollowed := true, recurses := true, named := ["internal/strconv.uint64pow10", "math/bits.deBruijn32tab", "math/bits.deBruijn64tab"], apart := false, laid := [("math/bits.deBruijn32tab", laid_math_bits_deBruijn32tab), ("math/bits.deBruijn64tab", laid_math_bits_deBruijn64tab), ("internal/strconv.uint64pow10", laid_internal_strconv_uint64pow10)] }
def CanonTurnsSaid : Prop := canonTurnsRow.holds Tryd.pinned (OpenSpec.ofChange canonTurnsSpec)

/-- ITS FALSE NEIGHBOUR: 'it returns false'. Refute it at one input. -/
def canonTurnsWrong : ChangeSpec := { name := "canonTurns", fn := fun _ => fun
  | [d1, d2, d3] => { results := [.lit (.bool false)], args := [d1, d2, d3] }
  | _ => none }
def CanonTurnsWrongFalsely : Prop := canonTurnsRow.holds Tryd.pinned (OpenSpec.ofChange canonTurnsWrong)

/-- 'ratchetlaw06.CanonZero': WHATEVER THE INPUT: true; the input reads as it did. -/
def canonZeroSpec : ChangeSpec := { name := "canonZero", fn := fun _ => fun
  | [d1, d2] => { results := [.lit (.bool true)], args := [d1, d2] }
  | _ => none }
def canonZeroRow : OpenClaim := { program := "ytfgglniigeagdaadoor", sum := "ebcd12ad77503c8c5b2a93f028d00b482c19b7d2b8c325e09fff9f2828ff8006", func := "ratchet/ratchetlaw06.CanonZero", spec := "canonZero", unfollowed := true, recurses := true, named := ["internal/strconv.uint64pow10", "math/bits.deBruijn32tab", "math/bits.deBruijn64tab"], apart := false, laid := [("math/bits.deBruijn32tab", laid_math_bits_deBruijn32tab), ("math/bits.deBruijn64tab", laid_math_bits_deBruijn64tab), ("internal/strconv.uint64pow10", laid_internal_strconv_uint64pow10)] }
def CanonZeroSaid : Prop := canonZeroRow.holds Tryd.pinned (OpenSpec.ofChange canonZeroSpec)

/-- ITS FALSE NEIGHBOUR: 'it returns false'. Refute it at one input. -/
def canonZeroWrong : ChangeSpec := { name := "canonZero", fn := fun _ => fun
  | [d1, d2] => { results := [.lit (.bool false)], args := [d1, d2] }
  | _ => none }
def CanonZeroWrongFalsely : Prop := canonZeroRow.holds Tryd.pinned (OpenSpec.ofChange canonZeroWrong)

/-- 'ratchetlaw06.CanonUnrolled': WHATEVER THE INPUT: true; the input reads as it did. -/
def canonUnrolledSpec : ChangeSpec := { name := "canonUnrolled", fn := fun _ => fun
  | [d1, d2] => { results := [.lit (.bool true)], args := [d1, d2] }
  | _ => none }
def canonUnrolledRow : OpenClaim := { program := "ytfgglniigeagdaadoor", sum := "ebcd12ad77503c8c5b2a93f028d00b482c19b7d2b8c325e09fff9f2828ff8006", func := "ratchet/ratchetlaw06.CanonUnrolled", spec := "canonUnrolled", unfollowed := true, recurses := true, named := ["internal/strconv.uint64pow10", "math/bits.deBruijn32tab", "math/bits.deBruijn64tab"], apart := false, laid := [("math/bits.deBruijn32tab", laid_math_bits_deBruijn32tab), ("math/bits.deBruijn64tab", laid_math_bits_deBruijn64tab), ("internal/strconv.uint64pow10", laid_internal_strconv_uint64pow10)] }
def CanonUnrolledSaid : Prop := canonUnrolledRow.holds Tryd.pinned (OpenSpec.ofChange canonUnrolledSpec)

/-- ITS FALSE NEIGHBOUR: 'it returns false'. Refute it at one input. -/
def canonUnrolledWrong : ChangeSpec := { name := "canonUnrolled", fn := fun _ => fun
  | [d1, d2] => { results := [.lit (.bool false)], args := [d1, d2] }
  | _ => none }
def CanonUnrolledWrongFalsely : Prop := canonUnrolledRow.holds Tryd.pinned (OpenSpec.ofChange canonUnrolledWrong)

/-- 'ratchetlaw07.SubOnes': WHATEVER THE INPUT: true; the input reads as it did. -/
def subOnesSpec : ChangeSpec := { name := "subOnes", fn := fun _ => fun
  | [d1, d2, d3] => { results := [.lit (.bool true)], args := [d1, d2, d3] }
  | _ => none }
def subOnesRow : OpenClaim := { program := "ytfgglniigeagdaadoor", sum := "ebcd12ad77503c8c5b2a93f028d00b482c19b7d2b8c325e09fff9f2828ff8006", func := "ratchet/ratchetlaw07.SubOnes", spec := "subOnes", unfollowed := true, recurses := true, named := ["internal/strconv.uint64pow10", "math/bits.deBruijn32tab", "math/bits.deBruijn64tab"], apart := false, laid := [("math/bits.deBruijn32tab", laid_math_bits_deBruijn32tab), ("math/bits.deBruijn64tab", laid_math_bits_deBruijn64tab), ("internal/strconv.uint64pow10", laid_internal_strconv_uint64pow10)] }
def SubOnesSaid : Prop := subOnesRow.holds Tryd.pinned (OpenSpec.ofChange subOnesSpec)

/-- ITS FALSE NEIGHBOUR: 'it returns false'. Refute it at one input. -/
def subOnesWrong : ChangeSpec := { name := "subOnes", fn := fun _ => fun
  | [d1, d2, d3] => { results := [.lit (.bool false)], args := [d1, d2, d3] }
  | _ => none }
def SubOnesWrongFalsely : Prop := subOnesRow.holds Tryd.pinned (OpenSpec.ofChange subOnesWrong)

/-- 'ratchetlaw07.SubLeads': WHATEVER THE INPUT: true; the input reads as it did. -/
def subLeadsSpec : ChangeSpec := { name := "subLeads", fn := fun _ => fun
  | [d1, d2, d3, d4] => { results := [.lit (.bool true)], args := [d1, d2, d3, d4] }
  | _ => none }
def subLeadsRow : OpenClaim := { program := "ytfgglniigeagdaadoor", sum := "ebcd12ad77503c8c5b2a93f028d00b482c19b7d2b8c325e09fff9f2828ff8006", func := "ratchet/ratchetlaw07.SubLeads", spec := "subLeads", unfollowed := true, recurses := true, named := ["internal/strconv.uint64pow10", "math/bits.deBruijn32tab", "math/bits.deBruijn64tab"], apart := false, laid := [("math/bits.deBruijn32tab", laid_math_bits_deBruijn32tab), ("math/bits.deBruijn64tab", laid_math_bits_deBruijn64tab), ("internal/strconv.uint64pow10", laid_internal_strconv_uint64pow10)] }
def SubLeadsSaid : Prop := subLeadsRow.holds Tryd.pinned (OpenSpec.ofChange subLeadsSpec)

/-- ITS FALSE NEIGHBOUR: 'it returns false'. Refute it at one input. -/
def subLeadsWrong : ChangeSpec := { name := "subLeads", fn := fun _ => fun
  | [d1, d2, d3, d4] => { results := [.lit (.bool false)], args := [d1, d2, d3, d4] }
  | _ => none }
def SubLeadsWrongFalsely : Prop := subLeadsRow.holds Tryd.pinned (OpenSpec.ofChange subLeadsWrong)

/-- 'ratchetlaw07.SubMeets': WHATEVER THE INPUT: true; the input reads as it did. -/
def subMeetsSpec : ChangeSpec := { name := "subMeets", fn := fun _ => fun
  | [d1, d2, d3, d4] => { results := [.lit (.bool true)], args := [d1, d2, d3, d4] }
  | _ => none }
def subMeetsRow : OpenClaim := { program := "ytfgglniigeagdaadoor", sum := "ebcd12ad77503c8c5b2a93f028d00b482c19b7d2b8c325e09fff9f2828ff8006", func := "ratchet/ratchetlaw07.SubMeets", spec := "subMeets", unfollowed := true, recurses := true, named := ["internal/strconv.uint64pow10", "math/bits.deBruijn32tab", "math/bits.deBruijn64tab"], apart := false, laid := [("math/bits.deBruijn32tab", laid_math_bits_deBruijn32tab), ("math/bits.deBruijn64tab", laid_math_bits_deBruijn64tab), ("internal/strconv.uint64pow10", laid_internal_strconv_uint64pow10)] }
def SubMeetsSaid : Prop := subMeetsRow.holds Tryd.pinned (OpenSpec.ofChange subMeetsSpec)

/-- ITS FALSE NEIGHBOUR: 'it returns false'. Refute it at one input. -/
def subMeetsWrong : ChangeSpec := { name := "subMeets", fn := fun _ => fun
  | [d1, d2, d3, d4] => { results := [.lit (.bool false)], args := [d1, d2, d3, d4] }
  | _ => none }
def SubMeetsWrongFalsely : Prop := subMeetsRow.holds Tryd.pinned (OpenSpec.ofChange subMeetsWrong)

/-- 'ratchetlaw07.SubDecls': WHATEVER THE INPUT: true; the input reads as it did. -/
def subDeclsSpec : ChangeSpec := { name := "subDecls", fn := fun _ => fun
  | [d] => { results := [.lit (.bool true)], args := [d] }
  | _ => none }
def subDeclsRow : OpenClaim := { program := "ytfgglniigeagdaadoor", sum := "ebcd12ad77503c8c5b2a93f028d00b482c19b7d2b8c325e09fff9f2828ff8006", func := "ratchet/ratchetlaw07.SubDecls", spec := "subDecls", unfollowed := true, recurses := true, named := ["internal/strconv.uint64pow10", "math/bits.deBruijn32tab", "math/bits.deBruijn64tab"], apart := false, laid := [("math/bits.deBruijn32tab", laid_math_bits_deBruijn32tab), ("math/bits.deBruijn64tab", laid_math_bits_deBruijn64tab), ("internal/strconv.uint64pow10", laid_internal_strconv_uint64pow10)] }
def SubDeclsSaid : Prop := subDeclsRow.holds Tryd.pinned (OpenSpec.ofChange subDeclsSpec)

/-- ITS FALSE NEIGHBOUR: 'it returns false'. Refute it at one input. -/
def subDeclsWrong : ChangeSpec := { name := "subDecls", fn := fun _ => fun
  | [d] => { results := [.lit (.bool false)], args := [d] }
  | _ => none }
def SubDeclsWrongFalsely : Prop := subDeclsRow.holds Tryd.pinned (OpenSpec.ofChange subDeclsWrong)

/-- 'ratchetlaw07.SubDeep': WHATEVER THE INPUT: true; the input reads as it did. -/
def subDeepSpec : ChangeSpec := { name := "subDeep", fn := fun _ => fun
  | [d1, d2] => { results := [.lit (.bool true)], args := [d1, d2] }
  | _ => none }
def subDeepRow : OpenClaim := { program := "ytfgglniigeagdaadoor", sum := "ebcd12ad77503c8c5b2a93f028d00b482c19b7d2b8c325e09fff9f2828ff8006", func := "ratchet/ratchetlaw07.SubDeep", spec := "subDeep", unfollowed := true, recurses := true, named := ["internal/strconv.uint64pow10", "math/bits.deBruijn32tab", "math/bits.deBruijn64tab"], apart := false, laid := [("math/bits.deBruijn32tab", laid_math_bits_deBruijn32tab), ("math/bits.deBruijn64tab", laid_math_bits_deBruijn64tab), ("internal/strconv.uint64pow10", laid_internal_strconv_uint64pow10)] }
def SubDeepSaid : Prop := subDeepRow.holds Tryd.pinned (OpenSpec.ofChange subDeepSpec)

/-- ITS FALSE NEIGHBOUR: 'it returns false'. Refute it at one input. -/
def subDeepWrong : ChangeSpec := { name := "subDeep", fn := fun _ => fun
  | [d1, d2] => { results := [.lit (.bool false)], args := [d1, d2] }
  | _ => none }
def SubDeepWrongFalsely : Prop := subDeepRow.holds Tryd.pinned (OpenSpec.ofChange subDeepWrong)

/- THE SECOND FORM. 'bulk': how many values and letters a reading holds, each counted each time it is reached (what is shared counts as often as it is met; a slice's spare places count too). A statement '..UptoSaid' is the law's where the arguments, and the package variables that the reading takes, are together of bulk at most 1048576: NARROWER than '..Said'. Prove '..Said' where nothing that the law and all that it calls make is longer than what came in: it says more and counts as full. Else prove '..UptoSaid'. A law counts once. -/
mutual
def uptoBulk {H : Type} : DataW H → Nat
  | .lit (.string bytes) => bytes.length + 1
  | .lit _ => 1
  | .nil => 1
  | .ptr d => uptoBulk d + 1
  | .slice elems spare => uptoBulkAll elems + uptoBulkAll spare + 1
  | .agg parts => uptoBulkAll parts + 1
  | .iface _ d => uptoBulk d + 1
  | .map entries => uptoBulkEntries entries + 1
  | .held _ => 1
def uptoBulkAll {H : Type} : List (DataW H) → Nat
  | [] => 0
  | d :: r => uptoBulk d + uptoBulkAll r
def uptoBulkEntries {H : Type} : List (Lit × DataW H) → Nat
  | [] => 0
  | x :: r => uptoBulkEntry x + uptoBulkEntries r
def uptoBulkEntry {H : Type} : Lit × DataW H → Nat
  | (.string bytes, d) => bytes.length + uptoBulk d + 1
  | (_, d) => uptoBulk d + 1
 end
def uptoSmall : (H : Type) → List (DataW H) → Bool := fun _ ds => decide (uptoBulkAll ds ≤ 1048576)
def OpenSpec.upto (s : _root_.Go.ChangeSpec) : _root_.Go.OpenSpec := { _root_.Go.OpenSpec.ofChange s with cond := some uptoSmall }

/-- 'ratchetlaw06.CanonSames', WHERE WHAT IT READS IS OF BULK AT MOST 1048576: true; the input reads as it did. -/
def canonSamesUptoRow : OpenClaim := { program := "ytfgglniigeagdaadoor", sum := "ebcd12ad77503c8c5b2a93f028d00b482c19b7d2b8c325e09fff9f2828ff8006", func := "ratchet/ratchetlaw06.CanonSames", spec := "canonSames", unfollowed := true, recurses := true, named := ["internal/strconv.uint64pow10", "math/bits.deBruijn32tab", "math/bits.deBruijn64tab"], apart := false, laid := [("math/bits.deBruijn32tab", laid_math_bits_deBruijn32tab), ("math/bits.deBruijn64tab", laid_math_bits_deBruijn64tab), ("internal/strconv.uint64pow10", laid_internal_strconv_uint64pow10)], narrowed := true }
def CanonSamesUptoSaid : Prop := canonSamesUptoRow.holds Tryd.pinned (OpenSpec.upto canonSamesSpec)

/-- 'ratchetlaw06.CanonTurns', WHERE WHAT IT READS IS OF BULK AT MOST 1048576: true; the input reads as it did. -/
def canonTurnsUptoRow : OpenClaim := { program := "ytfgglniigeagdaadoor", sum := "ebcd12ad77503c8c5b2a93f028d00b482c19b7d2b8c325e09fff9f2828ff8006", func := "ratchet/ratchetlaw06.CanonTurns", spec := "canonTurns", unfollowed := true, recurses := true, named := ["internal/strconv.uint64pow10", "math/bits.deBruijn32tab", "math/bits.deBruijn64tab"], apart := false, laid := [("math/bits.deBruijn32tab", laid_math_bits_deBruijn32tab), ("math/bits.deBruijn64tab", laid_math_bits_deBruijn64tab), ("internal/strconv.uint64pow10", laid_internal_strconv_uint64pow10)], narrowed := true }
def CanonTurnsUptoSaid : Prop := canonTurnsUptoRow.holds Tryd.pinned (OpenSpec.upto canonTurnsSpec)

/-- 'ratchetlaw06.CanonZero', WHERE WHAT IT READS IS OF BULK AT MOST 1048576: true; the input reads as it did. -/
def canonZeroUptoRow : OpenClaim := { program := "ytfgglniigeagdaadoor", sum := "ebcd12ad77503c8c5b2a93f028d00b482c19b7d2b8c325e09fff9f2828ff8006", func := "ratchet/ratchetlaw06.CanonZero", spec := "canonZero", unfollowed := true, recurses := true, named := ["internal/strconv.uint64pow10", "math/bits.deBruijn32tab", "math/bits.deBruijn64tab"], apart := false, laid := [("math/bits.deBruijn32tab", laid_math_bits_deBruijn32tab), ("math/bits.deBruijn64tab", laid_math_bits_deBruijn64tab), ("internal/strconv.uint64pow10", laid_internal_strconv_uint64pow10)], narrowed := true }
def CanonZeroUptoSaid : Prop := canonZeroUptoRow.holds Tryd.pinned (OpenSpec.upto canonZeroSpec)

/-- 'ratchetlaw06.CanonUnrolled', WHERE WHAT IT READS IS OF BULK AT MOST 1048576: true; the input reads as it did. -/
def canonUnrolledUptoRow : OpenClaim := { program := "ytfgglniigeagdaadoor", sum := "ebcd12ad77503c8c5b2a93f028d00b482c19b7d2b8c325e09fff9f2828ff8006", func := "ratchet/ratchetlaw06.CanonUnrolled", spec := "canonUnrolled", unfollowed := true, recurses := true, named := ["internal/strconv.uint64pow10", "math/bits.deBruijn32tab", "math/bits.deBruijn64tab"], apart := false, laid := [("math/bits.deBruijn32tab", laid_math_bits_deBruijn32tab), ("math/bits.deBruijn64tab", laid_math_bits_deBruijn64tab), ("internal/strconv.uint64pow10", laid_internal_strconv_uint64pow10)], narrowed := true }
def CanonUnrolledUptoSaid : Prop := canonUnrolledUptoRow.holds Tryd.pinned (OpenSpec.upto canonUnrolledSpec)

/-- 'ratchetlaw07.SubOnes', WHERE WHAT IT READS IS OF BULK AT MOST 1048576: true; the input reads as it did. -/
def subOnesUptoRow : OpenClaim := { program := "ytfgglniigeagdaadoor", sum := "ebcd12ad77503c8c5b2a93f028d00b482c19b7d2b8c325e09fff9f2828ff8006", func := "ratchet/ratchetlaw07.SubOnes", spec := "subOnes", unfollowed := true, recurses := true, named := ["internal/strconv.uint64pow10", "math/bits.deBruijn32tab", "math/bits.deBruijn64tab"], apart := false, laid := [("math/bits.deBruijn32tab", laid_math_bits_deBruijn32tab), ("math/bits.deBruijn64tab", laid_math_bits_deBruijn64tab), ("internal/strconv.uint64pow10", laid_internal_strconv_uint64pow10)], narrowed := true }
def SubOnesUptoSaid : Prop := subOnesUptoRow.holds Tryd.pinned (OpenSpec.upto subOnesSpec)

/-- 'ratchetlaw07.SubLeads', WHERE WHAT IT READS IS OF BULK AT MOST 1048576: true; the input reads as it did. -/
def subLeadsUptoRow : OpenClaim := { program := "ytfgglniigeagdaadoor", sum := "ebcd12ad77503c8c5b2a93f028d00b482c19b7d2b8c325e09fff9f2828ff8006", func := "ratchet/ratchetlaw07.SubLeads", spec := "subLeads", unfollowed := true, recurses := true, named := ["internal/strconv.uint64pow10", "math/bits.deBruijn32tab", "math/bits.deBruijn64tab"], apart := false, laid := [("math/bits.deBruijn32tab", laid_math_bits_deBruijn32tab), ("math/bits.deBruijn64tab", laid_math_bits_deBruijn64tab), ("internal/strconv.uint64pow10", laid_internal_strconv_uint64pow10)], narrowed := true }
def SubLeadsUptoSaid : Prop := subLeadsUptoRow.holds Tryd.pinned (OpenSpec.upto subLeadsSpec)

/-- 'ratchetlaw07.SubMeets', WHERE WHAT IT READS IS OF BULK AT MOST 1048576: true; the input reads as it did. -/
def subMeetsUptoRow : OpenClaim := { program := "ytfgglniigeagdaadoor", sum := "ebcd12ad77503c8c5b2a93f028d00b482c19b7d2b8c325e09fff9f2828ff8006", func := "ratchet/ratchetlaw07.SubMeets", spec := "subMeets", unfollowed := true, recurses := true, named := ["internal/strconv.uint64pow10", "math/bits.deBruijn32tab", "math/bits.deBruijn64tab"], apart := false, laid := [("math/bits.deBruijn32tab", laid_math_bits_deBruijn32tab), ("math/bits.deBruijn64tab", laid_math_bits_deBruijn64tab), ("internal/strconv.uint64pow10", laid_internal_strconv_uint64pow10)], narrowed := true }
def SubMeetsUptoSaid : Prop := subMeetsUptoRow.holds Tryd.pinned (OpenSpec.upto subMeetsSpec)

/-- 'ratchetlaw07.SubDecls', WHERE WHAT IT READS IS OF BULK AT MOST 1048576: true; the input reads as it did. -/
def subDeclsUptoRow : OpenClaim := { program := "ytfgglniigeagdaadoor", sum := "ebcd12ad77503c8c5b2a93f028d00b482c19b7d2b8c325e09fff9f2828ff8006", func := "ratchet/ratchetlaw07.SubDecls", spec := "subDecls", unfollowed := true, recurses := true, named := ["internal/strconv.uint64pow10", "math/bits.deBruijn32tab", "math/bits.deBruijn64tab"], apart := false, laid := [("math/bits.deBruijn32tab", laid_math_bits_deBruijn32tab), ("math/bits.deBruijn64tab", laid_math_bits_deBruijn64tab), ("internal/strconv.uint64pow10", laid_internal_strconv_uint64pow10)], narrowed := true }
def SubDeclsUptoSaid : Prop := subDeclsUptoRow.holds Tryd.pinned (OpenSpec.upto subDeclsSpec)

/-- 'ratchetlaw07.SubDeep', WHERE WHAT IT READS IS OF BULK AT MOST 1048576: true; the input reads as it did. -/
def subDeepUptoRow : OpenClaim := { program := "ytfgglniigeagdaadoor", sum := "ebcd12ad77503c8c5b2a93f028d00b482c19b7d2b8c325e09fff9f2828ff8006", func := "ratchet/ratchetlaw07.SubDeep", spec := "subDeep", unfollowed := true, recurses := true, named := ["internal/strconv.uint64pow10", "math/bits.deBruijn32tab", "math/bits.deBruijn64tab"], apart := false, laid := [("math/bits.deBruijn32tab", laid_math_bits_deBruijn32tab), ("math/bits.deBruijn64tab", laid_math_bits_deBruijn64tab), ("internal/strconv.uint64pow10", laid_internal_strconv_uint64pow10)], narrowed := true }
def SubDeepUptoSaid : Prop := subDeepUptoRow.holds Tryd.pinned (OpenSpec.upto subDeepSpec)

end Rows
end Go.Proofs.YtfgglniigeagdaaDoor
