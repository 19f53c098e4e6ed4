/-
  DERIVED. GIVEN WITH THE SEED: THE CARDS: each row of YtcbbcnmifohibaaDoorRows.lean that lists a variable, with what it lists TIED to the program's text (the seventh form; the later family's looks); each row that meets fmt, with fmt's text TOLD by the authors' own Lean function (tested against real Go, not proved from fmt's source: count such statements apart). THE CARD IS WHAT COUNTS. Prove the row's statement (the work); the ties are given (YtcbbcnmifohibaaDoorTie.lean); close each card by the builder's one call (the guide's Derived/Test/ToyasCard.lean, 'card_holds'). Laid BY PROGRAM, IN A SANDBOX (cutbox-door.mjs). By AI agents, Wed Nov 11 2026. No macro, syntax, notation, axiom, sorry.
-/
import Derived.Test.YtcbbcnmifohibaaDoorRows
import GoSem.ClaimSeven
namespace Go.Proofs.YtcbbcnmifohibaaDoor
namespace Rows

/-- THE TIED CARD OF 'creellaw.GlobFits'. -/
def globFitsCard : Claim7 := { stood := { row := globFitsRow, standIns := [], harness := (true, "f5bd4b2c8cc1ade591913a6f540a458912550ac93d39e32c673a0ebba67b3b24"), looks := false }, kinds := [], alts := [], laidByText := true, laidKinds := [.data, .pinned], laidTests := true, laidLooks := .later }
def GlobFitsCardSaid : Prop := Claim7.holds Tryd.pinned (.plain (OpenSpec.ofChange globFitsSpec)) globFitsCard

/-- THE TIED CARD OF 'creellaw.FilterTakes'. -/
def filterTakesCard : Claim7 := { stood := { row := filterTakesRow, standIns := [], harness := (true, "f5bd4b2c8cc1ade591913a6f540a458912550ac93d39e32c673a0ebba67b3b24"), looks := false }, kinds := [], alts := [], laidByText := true, laidKinds := [.data, .pinned], laidTests := true, laidLooks := .later }
def FilterTakesCardSaid : Prop := Claim7.holds Tryd.pinned (.plain (OpenSpec.ofChange filterTakesSpec)) filterTakesCard

/-- THE TIED CARD OF 'creellaw.FilterRuns'. -/
def filterRunsCard : Claim7 := { stood := { row := filterRunsRow, standIns := [], harness := (true, "f5bd4b2c8cc1ade591913a6f540a458912550ac93d39e32c673a0ebba67b3b24"), looks := false }, kinds := [], alts := [], laidByText := true, laidKinds := [.data, .pinned], laidTests := true, laidLooks := .later }
def FilterRunsCardSaid : Prop := Claim7.holds Tryd.pinned (.plain (OpenSpec.ofChange filterRunsSpec)) filterRunsCard

/-- THE TIED CARD OF 'creellaw.PlanMakes'. -/
def planMakesCard : Claim7 := { stood := { row := planMakesRow, standIns := [], harness := (true, "f5bd4b2c8cc1ade591913a6f540a458912550ac93d39e32c673a0ebba67b3b24"), looks := false }, kinds := [], alts := [], laidByText := true, laidKinds := [.data, .pinned], laidTests := true, laidLooks := .later }
def PlanMakesCardSaid : Prop := Claim7.holds Tryd.pinned (.plain (OpenSpec.ofChange planMakesSpec)) planMakesCard

/-- THE TIED CARD OF 'creellaw.PlanGrows'. -/
def planGrowsCard : Claim7 := { stood := { row := planGrowsRow, standIns := [], harness := (true, "f5bd4b2c8cc1ade591913a6f540a458912550ac93d39e32c673a0ebba67b3b24"), looks := false }, kinds := [], alts := [], laidByText := true, laidKinds := [.data, .pinned], laidTests := true, laidLooks := .later }
def PlanGrowsCardSaid : Prop := Claim7.holds Tryd.pinned (.plain (OpenSpec.ofChange planGrowsSpec)) planGrowsCard

/-- THE TIED CARD OF 'creellaw.TreePuts'. -/
def treePutsCard : Claim7 := { stood := { row := treePutsRow, standIns := [], harness := (true, "f5bd4b2c8cc1ade591913a6f540a458912550ac93d39e32c673a0ebba67b3b24"), looks := false }, kinds := [], alts := [], laidByText := true, laidKinds := [.data, .pinned], laidTests := true, laidLooks := .later }
def TreePutsCardSaid : Prop := Claim7.holds Tryd.pinned (.plain (OpenSpec.ofChange treePutsSpec)) treePutsCard

/-- THE SECOND FORM's CARD OF 'creellaw.GlobFits'. -/
def globFitsUptoCard : Claim7 := { stood := { row := globFitsUptoRow, standIns := [], harness := (true, "f5bd4b2c8cc1ade591913a6f540a458912550ac93d39e32c673a0ebba67b3b24"), looks := false }, kinds := [], alts := [], laidByText := true, laidKinds := [.data, .pinned], laidTests := true, laidLooks := .later }
def GlobFitsUptoCardSaid : Prop := Claim7.holds Tryd.pinned (.plain (OpenSpec.upto globFitsSpec)) globFitsUptoCard

/-- THE SECOND FORM's CARD OF 'creellaw.FilterTakes'. -/
def filterTakesUptoCard : Claim7 := { stood := { row := filterTakesUptoRow, standIns := [], harness := (true, "f5bd4b2c8cc1ade591913a6f540a458912550ac93d39e32c673a0ebba67b3b24"), looks := false }, kinds := [], alts := [], laidByText := true, laidKinds := [.data, .pinned], laidTests := true, laidLooks := .later }
def FilterTakesUptoCardSaid : Prop := Claim7.holds Tryd.pinned (.plain (OpenSpec.upto filterTakesSpec)) filterTakesUptoCard

/-- THE SECOND FORM's CARD OF 'creellaw.FilterRuns'. -/
def filterRunsUptoCard : Claim7 := { stood := { row := filterRunsUptoRow, standIns := [], harness := (true, "f5bd4b2c8cc1ade591913a6f540a458912550ac93d39e32c673a0ebba67b3b24"), looks := false }, kinds := [], alts := [], laidByText := true, laidKinds := [.data, .pinned], laidTests := true, laidLooks := .later }
def FilterRunsUptoCardSaid : Prop := Claim7.holds Tryd.pinned (.plain (OpenSpec.upto filterRunsSpec)) filterRunsUptoCard

/-- THE SECOND FORM's CARD OF 'creellaw.PlanMakes'. -/
def planMakesUptoCard : Claim7 := { stood := { row := planMakesUptoRow, standIns := [], harness := (true, "f5bd4b2c8cc1ade591913a6f540a458912550ac93d39e32c673a0ebba67b3b24"), looks := false }, kinds := [], alts := [], laidByText := true, laidKinds := [.data, .pinned], laidTests := true, laidLooks := .later }
def PlanMakesUptoCardSaid : Prop := Claim7.holds Tryd.pinned (.plain (OpenSpec.upto planMakesSpec)) planMakesUptoCard

/-- THE SECOND FORM's CARD OF 'creellaw.PlanGrows'. -/
def planGrowsUptoCard : Claim7 := { stood := { row := planGrowsUptoRow, standIns := [], harness := (true, "f5bd4b2c8cc1ade591913a6f540a458912550ac93d39e32c673a0ebba67b3b24"), looks := false }, kinds := [], alts := [], laidByText := true, laidKinds := [.data, .pinned], laidTests := true, laidLooks := .later }
def PlanGrowsUptoCardSaid : Prop := Claim7.holds Tryd.pinned (.plain (OpenSpec.upto planGrowsSpec)) planGrowsUptoCard

/-- THE SECOND FORM's CARD OF 'creellaw.TreePuts'. -/
def treePutsUptoCard : Claim7 := { stood := { row := treePutsUptoRow, standIns := [], harness := (true, "f5bd4b2c8cc1ade591913a6f540a458912550ac93d39e32c673a0ebba67b3b24"), looks := false }, kinds := [], alts := [], laidByText := true, laidKinds := [.data, .pinned], laidTests := true, laidLooks := .later }
def TreePutsUptoCardSaid : Prop := Claim7.holds Tryd.pinned (.plain (OpenSpec.upto treePutsSpec)) treePutsUptoCard
end Rows
end Go.Proofs.YtcbbcnmifohibaaDoor
