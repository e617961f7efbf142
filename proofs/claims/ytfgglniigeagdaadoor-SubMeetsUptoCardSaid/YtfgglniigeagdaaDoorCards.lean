/-
  DERIVED. GIVEN WITH THE SEED: THE CARDS: each row of YtfgglniigeagdaaDoorRows.lean that lists a variable, with what it lists TIED to the program's text (the seventh form; the later family's looks); each row that meets fmt, with fmt's text TOLD by the authors' own Lean function (tested against real Go, not proved from fmt's source: count such statements apart). THE CARD IS WHAT COUNTS. Prove the row's statement (the work); the ties are given (YtfgglniigeagdaaDoorTie.lean); close each card by the builder's one call (the guide's Derived/Test/ToyasCard.lean, 'card_holds'). Laid BY PROGRAM, IN A SANDBOX (cutbox-door.mjs). By AI agents, Wed Nov 11 2026. No macro, syntax, notation, axiom, sorry.
-/
import Derived.Test.YtfgglniigeagdaaDoorRows
import GoSem.ClaimSeven
namespace Go.Proofs.YtfgglniigeagdaaDoor
namespace Rows

/-- THE TIED CARD OF 'ratchetlaw06.CanonSames'. -/
def canonSamesCard : Claim7 := { stood := { row := canonSamesRow, standIns := [], harness := (true, "7efb47badb817e440efcaca4a6f1618abe67ec34785911466089e264f7ddfa53"), looks := false }, kinds := [], alts := [], laidByText := true, laidKinds := [.data, .data, .data], laidTests := true, laidLooks := .later }
def CanonSamesCardSaid : Prop := Claim7.holds Tryd.pinned (.plain (OpenSpec.ofChange canonSamesSpec)) canonSamesCard

/-- THE TIED CARD OF 'ratchetlaw06.CanonTurns'. -/
def canonTurnsCard : Claim7 := { stood := { row := canonTurnsRow, standIns := [], harness := (true, "7efb47badb817e440efcaca4a6f1618abe67ec34785911466089e264f7ddfa53"), looks := false }, kinds := [], alts := [], laidByText := true, laidKinds := [.data, .data, .data], laidTests := true, laidLooks := .later }
def CanonTurnsCardSaid : Prop := Claim7.holds Tryd.pinned (.plain (OpenSpec.ofChange canonTurnsSpec)) canonTurnsCard

/-- THE TIED CARD OF 'ratchetlaw06.CanonZero'. -/
def canonZeroCard : Claim7 := { stood := { row := canonZeroRow, standIns := [], harness := (true, "7efb47badb817e440efcaca4a6f1618abe67ec34785911466089e264f7ddfa53"), looks := false }, kinds := [], alts := [], laidByText := true, laidKinds := [.data, .data, .data], laidTests := true, laidLooks := .later }
def CanonZeroCardSaid : Prop := Claim7.holds Tryd.pinned (.plain (OpenSpec.ofChange canonZeroSpec)) canonZeroCard

/-- THE TIED CARD OF 'ratchetlaw06.CanonUnrolled'. -/
def canonUnrolledCard : Claim7 := { stood := { row := canonUnrolledRow, standIns := [], harness := (true, "7efb47badb817e440efcaca4a6f1618abe67ec34785911466089e264f7ddfa53"), looks := false }, kinds := [], alts := [], laidByText := true, laidKinds := [.data, .data, .data], laidTests := true, laidLooks := .later }
def CanonUnrolledCardSaid : Prop := Claim7.holds Tryd.pinned (.plain (OpenSpec.ofChange canonUnrolledSpec)) canonUnrolledCard

/-- THE TIED CARD OF 'ratchetlaw07.SubOnes'. -/
def subOnesCard : Claim7 := { stood := { row := subOnesRow, standIns := [], harness := (true, "7efb47badb817e440efcaca4a6f1618abe67ec34785911466089e264f7ddfa53"), looks := false }, kinds := [], alts := [], laidByText := true, laidKinds := [.data, .data, .data], laidTests := true, laidLooks := .later }
def SubOnesCardSaid : Prop := Claim7.holds Tryd.pinned (.plain (OpenSpec.ofChange subOnesSpec)) subOnesCard

/-- THE TIED CARD OF 'ratchetlaw07.SubLeads'. -/
def subLeadsCard : Claim7 := { stood := { row := subLeadsRow, standIns := [], harness := (true, "7efb47badb817e440efcaca4a6f1618abe67ec34785911466089e264f7ddfa53"), looks := false }, kinds := [], alts := [], laidByText := true, laidKinds := [.data, .data, .data], laidTests := true, laidLooks := .later }
def SubLeadsCardSaid : Prop := Claim7.holds Tryd.pinned (.plain (OpenSpec.ofChange subLeadsSpec)) subLeadsCard

/-- THE TIED CARD OF 'ratchetlaw07.SubMeets'. -/
def subMeetsCard : Claim7 := { stood := { row := subMeetsRow, standIns := [], harness := (true, "7efb47badb817e440efcaca4a6f1618abe67ec34785911466089e264f7ddfa53"), looks := false }, kinds := [], alts := [], laidByText := true, laidKinds := [.data, .data, .data], laidTests := true, laidLooks := .later }
def SubMeetsCardSaid : Prop := Claim7.holds Tryd.pinned (.plain (OpenSpec.ofChange subMeetsSpec)) subMeetsCard

/-- THE TIED CARD OF 'ratchetlaw07.SubDecls'. -/
def subDeclsCard : Claim7 := { stood := { row := subDeclsRow, standIns := [], harness := (true, "7efb47badb817e440efcaca4a6f1618abe67ec34785911466089e264f7ddfa53"), looks := false }, kinds := [], alts := [], laidByText := true, laidKinds := [.data, .data, .data], laidTests := true, laidLooks := .later }
def SubDeclsCardSaid : Prop := Claim7.holds Tryd.pinned (.plain (OpenSpec.ofChange subDeclsSpec)) subDeclsCard

/-- THE TIED CARD OF 'ratchetlaw07.SubDeep'. -/
def subDeepCard : Claim7 := { stood := { row := subDeepRow, standIns := [], harness := (true, "7efb47badb817e440efcaca4a6f1618abe67ec34785911466089e264f7ddfa53"), looks := false }, kinds := [], alts := [], laidByText := true, laidKinds := [.data, .data, .data], laidTests := true, laidLooks := .later }
def SubDeepCardSaid : Prop := Claim7.holds Tryd.pinned (.plain (OpenSpec.ofChange subDeepSpec)) subDeepCard

/-- THE SECOND FORM's CARD OF 'ratchetlaw06.CanonSames'. -/
def canonSamesUptoCard : Claim7 := { stood := { row := canonSamesUptoRow, standIns := [], harness := (true, "7efb47badb817e440efcaca4a6f1618abe67ec34785911466089e264f7ddfa53"), looks := false }, kinds := [], alts := [], laidByText := true, laidKinds := [.data, .data, .data], laidTests := true, laidLooks := .later }
def CanonSamesUptoCardSaid : Prop := Claim7.holds Tryd.pinned (.plain (OpenSpec.upto canonSamesSpec)) canonSamesUptoCard

/-- THE SECOND FORM's CARD OF 'ratchetlaw06.CanonTurns'. -/
def canonTurnsUptoCard : Claim7 := { stood := { row := canonTurnsUptoRow, standIns := [], harness := (true, "7efb47badb817e440efcaca4a6f1618abe67ec34785911466089e264f7ddfa53"), looks := false }, kinds := [], alts := [], laidByText := true, laidKinds := [.data, .data, .data], laidTests := true, laidLooks := .later }
def CanonTurnsUptoCardSaid : Prop := Claim7.holds Tryd.pinned (.plain (OpenSpec.upto canonTurnsSpec)) canonTurnsUptoCard

/-- THE SECOND FORM's CARD OF 'ratchetlaw06.CanonZero'. -/
def canonZeroUptoCard : Claim7 := { stood := { row := canonZeroUptoRow, standIns := [], harness := (true, "7efb47badb817e440efcaca4a6f1618abe67ec34785911466089e264f7ddfa53"), looks := false }, kinds := [], alts := [], laidByText := true, laidKinds := [.data, .data, .data], laidTests := true, laidLooks := .later }
def CanonZeroUptoCardSaid : Prop := Claim7.holds Tryd.pinned (.plain (OpenSpec.upto canonZeroSpec)) canonZeroUptoCard

/-- THE SECOND FORM's CARD OF 'ratchetlaw06.CanonUnrolled'. -/
def canonUnrolledUptoCard : Claim7 := { stood := { row := canonUnrolledUptoRow, standIns := [], harness := (true, "7efb47badb817e440efcaca4a6f1618abe67ec34785911466089e264f7ddfa53"), looks := false }, kinds := [], alts := [], laidByText := true, laidKinds := [.data, .data, .data], laidTests := true, laidLooks := .later }
def CanonUnrolledUptoCardSaid : Prop := Claim7.holds Tryd.pinned (.plain (OpenSpec.upto canonUnrolledSpec)) canonUnrolledUptoCard

/-- THE SECOND FORM's CARD OF 'ratchetlaw07.SubOnes'. -/
def subOnesUptoCard : Claim7 := { stood := { row := subOnesUptoRow, standIns := [], harness := (true, "7efb47badb817e440efcaca4a6f1618abe67ec34785911466089e264f7ddfa53"), looks := false }, kinds := [], alts := [], laidByText := true, laidKinds := [.data, .data, .data], laidTests := true, laidLooks := .later }
def SubOnesUptoCardSaid : Prop := Claim7.holds Tryd.pinned (.plain (OpenSpec.upto subOnesSpec)) subOnesUptoCard

/-- THE SECOND FORM's CARD OF 'ratchetlaw07.SubLeads'. -/
def subLeadsUptoCard : Claim7 := { stood := { row := subLeadsUptoRow, standIns := [], harness := (true, "7efb47badb817e440efcaca4a6f1618abe67ec34785911466089e264f7ddfa53"), looks := false }, kinds := [], alts := [], laidByText := true, laidKinds := [.data, .data, .data], laidTests := true, laidLooks := .later }
def SubLeadsUptoCardSaid : Prop := Claim7.holds Tryd.pinned (.plain (OpenSpec.upto subLeadsSpec)) subLeadsUptoCard

/-- THE SECOND FORM's CARD OF 'ratchetlaw07.SubMeets'. -/
def subMeetsUptoCard : Claim7 := { stood := { row := subMeetsUptoRow, standIns := [], harness := (true, "7efb47badb817e440efcaca4a6f1618abe67ec34785911466089e264f7ddfa53"), looks := false }, kinds := [], alts := [], laidByText := true, laidKinds := [.data, .data, .data], laidTests := true, laidLooks := .later }
def SubMeetsUptoCardSaid : Prop := Claim7.holds Tryd.pinned (.plain (OpenSpec.upto subMeetsSpec)) subMeetsUptoCard

/-- THE SECOND FORM's CARD OF 'ratchetlaw07.SubDecls'. -/
def subDeclsUptoCard : Claim7 := { stood := { row := subDeclsUptoRow, standIns := [], harness := (true, "7efb47badb817e440efcaca4a6f1618abe67ec34785911466089e264f7ddfa53"), looks := false }, kinds := [], alts := [], laidByText := true, laidKinds := [.data, .data, .data], laidTests := true, laidLooks := .later }
def SubDeclsUptoCardSaid : Prop := Claim7.holds Tryd.pinned (.plain (OpenSpec.upto subDeclsSpec)) subDeclsUptoCard

/-- THE SECOND FORM's CARD OF 'ratchetlaw07.SubDeep'. -/
def subDeepUptoCard : Claim7 := { stood := { row := subDeepUptoRow, standIns := [], harness := (true, "7efb47badb817e440efcaca4a6f1618abe67ec34785911466089e264f7ddfa53"), looks := false }, kinds := [], alts := [], laidByText := true, laidKinds := [.data, .data, .data], laidTests := true, laidLooks := .later }
def SubDeepUptoCardSaid : Prop := Claim7.holds Tryd.pinned (.plain (OpenSpec.upto subDeepSpec)) subDeepUptoCard
end Rows
end Go.Proofs.YtfgglniigeagdaaDoor
