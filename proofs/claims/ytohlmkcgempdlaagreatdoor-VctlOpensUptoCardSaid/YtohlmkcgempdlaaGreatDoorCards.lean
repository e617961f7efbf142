/-
  DERIVED. GIVEN WITH THE SEED: THE CARDS: each row of YtohlmkcgempdlaaGreatDoorRows.lean that lists a variable, with what it lists TIED to the program's text (the seventh form; the later family's looks); each row that meets fmt, with fmt's text TOLD by the authors' own Lean function (tested against real Go, not proved from fmt's source: count such statements apart). THE CARD IS WHAT COUNTS. Prove the row's statement (the work); the ties are given (YtohlmkcgempdlaaGreatDoorTie.lean); close each card by the builder's one call (the guide's Derived/Test/ToyasCard.lean, 'card_holds'). Laid BY PROGRAM, IN A SANDBOX (cutbox-door.mjs). By AI agents, Wed Nov 11 2026. No macro, syntax, notation, axiom, sorry.
-/
import Derived.Test.YtohlmkcgempdlaaGreatDoorRows
import GoSem.ClaimSeven
namespace Go.Proofs.YtohlmkcgempdlaaGreatDoor
namespace Rows

/-- THE TIED CARD OF 'ratchetlaw15.VctlOpens'. -/
def vctlOpensCard : Claim7 := { stood := { row := vctlOpensRow, standIns := [], harness := (true, "73da5fd1476d3d7cc333fd8503e8989d3039d598d0bee5ee06a8aff373fff0d9"), looks := false }, kinds := [], alts := [], laidByText := true, laidKinds := [.data, .data, .data], laidTests := true, laidLooks := .later }
def VctlOpensCardSaid : Prop := Claim7.holds Tryz.pinned (.plain (OpenSpec.ofChange vctlOpensSpec)) vctlOpensCard

/-- THE TIED CARD OF 'ratchetlaw15.VctlDead'. -/
def vctlDeadCard : Claim7 := { stood := { row := vctlDeadRow, standIns := [], harness := (true, "73da5fd1476d3d7cc333fd8503e8989d3039d598d0bee5ee06a8aff373fff0d9"), looks := false }, kinds := [], alts := [], laidByText := true, laidKinds := [.data, .data, .data], laidTests := true, laidLooks := .later }
def VctlDeadCardSaid : Prop := Claim7.holds Tryz.pinned (.plain (OpenSpec.ofChange vctlDeadSpec)) vctlDeadCard

/-- THE TIED CARD OF 'ratchetlaw15.VctlAway'. -/
def vctlAwayCard : Claim7 := { stood := { row := vctlAwayRow, standIns := [], harness := (true, "73da5fd1476d3d7cc333fd8503e8989d3039d598d0bee5ee06a8aff373fff0d9"), looks := false }, kinds := [], alts := [], laidByText := true, laidKinds := [.data, .data, .data], laidTests := true, laidLooks := .later }
def VctlAwayCardSaid : Prop := Claim7.holds Tryz.pinned (.plain (OpenSpec.ofChange vctlAwaySpec)) vctlAwayCard

/-- THE TIED CARD OF 'ratchetlaw15.VctlSteps'. -/
def vctlStepsCard : Claim7 := { stood := { row := vctlStepsRow, standIns := [], harness := (true, "73da5fd1476d3d7cc333fd8503e8989d3039d598d0bee5ee06a8aff373fff0d9"), looks := false }, kinds := [], alts := [], laidByText := true, laidKinds := [.data, .data, .data], laidTests := true, laidLooks := .later }
def VctlStepsCardSaid : Prop := Claim7.holds Tryz.pinned (.plain (OpenSpec.ofChange vctlStepsSpec)) vctlStepsCard

/-- THE TIED CARD OF 'ratchetlaw15.VctlTypes'. -/
def vctlTypesCard : Claim7 := { stood := { row := vctlTypesRow, standIns := [], harness := (true, "73da5fd1476d3d7cc333fd8503e8989d3039d598d0bee5ee06a8aff373fff0d9"), looks := false }, kinds := [], alts := [], laidByText := true, laidKinds := [.data, .data, .data], laidTests := true, laidLooks := .later }
def VctlTypesCardSaid : Prop := Claim7.holds Tryz.pinned (.plain (OpenSpec.ofChange vctlTypesSpec)) vctlTypesCard

/-- THE SECOND FORM's CARD OF 'ratchetlaw15.VctlOpens'. -/
def vctlOpensUptoCard : Claim7 := { stood := { row := vctlOpensUptoRow, standIns := [], harness := (true, "73da5fd1476d3d7cc333fd8503e8989d3039d598d0bee5ee06a8aff373fff0d9"), looks := false }, kinds := [], alts := [], laidByText := true, laidKinds := [.data, .data, .data], laidTests := true, laidLooks := .later }
def VctlOpensUptoCardSaid : Prop := Claim7.holds Tryz.pinned (.plain (OpenSpec.upto vctlOpensSpec)) vctlOpensUptoCard

/-- THE SECOND FORM's CARD OF 'ratchetlaw15.VctlDead'. -/
def vctlDeadUptoCard : Claim7 := { stood := { row := vctlDeadUptoRow, standIns := [], harness := (true, "73da5fd1476d3d7cc333fd8503e8989d3039d598d0bee5ee06a8aff373fff0d9"), looks := false }, kinds := [], alts := [], laidByText := true, laidKinds := [.data, .data, .data], laidTests := true, laidLooks := .later }
def VctlDeadUptoCardSaid : Prop := Claim7.holds Tryz.pinned (.plain (OpenSpec.upto vctlDeadSpec)) vctlDeadUptoCard

/-- THE SECOND FORM's CARD OF 'ratchetlaw15.VctlAway'. -/
def vctlAwayUptoCard : Claim7 := { stood := { row := vctlAwayUptoRow, standIns := [], harness := (true, "73da5fd1476d3d7cc333fd8503e8989d3039d598d0bee5ee06a8aff373fff0d9"), looks := false }, kinds := [], alts := [], laidByText := true, laidKinds := [.data, .data, .data], laidTests := true, laidLooks := .later }
def VctlAwayUptoCardSaid : Prop := Claim7.holds Tryz.pinned (.plain (OpenSpec.upto vctlAwaySpec)) vctlAwayUptoCard

/-- THE SECOND FORM's CARD OF 'ratchetlaw15.VctlSteps'. -/
def vctlStepsUptoCard : Claim7 := { stood := { row := vctlStepsUptoRow, standIns := [], harness := (true, "73da5fd1476d3d7cc333fd8503e8989d3039d598d0bee5ee06a8aff373fff0d9"), looks := false }, kinds := [], alts := [], laidByText := true, laidKinds := [.data, .data, .data], laidTests := true, laidLooks := .later }
def VctlStepsUptoCardSaid : Prop := Claim7.holds Tryz.pinned (.plain (OpenSpec.upto vctlStepsSpec)) vctlStepsUptoCard

/-- THE SECOND FORM's CARD OF 'ratchetlaw15.VctlTypes'. -/
def vctlTypesUptoCard : Claim7 := { stood := { row := vctlTypesUptoRow, standIns := [], harness := (true, "73da5fd1476d3d7cc333fd8503e8989d3039d598d0bee5ee06a8aff373fff0d9"), looks := false }, kinds := [], alts := [], laidByText := true, laidKinds := [.data, .data, .data], laidTests := true, laidLooks := .later }
def VctlTypesUptoCardSaid : Prop := Claim7.holds Tryz.pinned (.plain (OpenSpec.upto vctlTypesSpec)) vctlTypesUptoCard
end Rows
end Go.Proofs.YtohlmkcgempdlaaGreatDoor
