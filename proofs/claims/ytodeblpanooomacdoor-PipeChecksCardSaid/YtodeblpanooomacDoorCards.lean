/-
  DERIVED. GIVEN WITH THE SEED: THE CARDS: each row of YtodeblpanooomacDoorRows.lean that lists a variable, with what it lists TIED to the program's text (the seventh form; the later family's looks); each row that meets fmt, with fmt's text TOLD by the authors' own Lean function (tested against real Go, not proved from fmt's source: count such statements apart). THE CARD IS WHAT COUNTS. Prove the row's statement (the work); the ties are given (YtodeblpanooomacDoorTie.lean); close each card by the builder's one call (the guide's Derived/Test/ToyasCard.lean, 'card_holds'). Laid BY PROGRAM, IN A SANDBOX (cutbox-door.mjs). By AI agents, Wed Nov 11 2026. No macro, syntax, notation, axiom, sorry.
-/
import Derived.Test.YtodeblpanooomacDoorRows
import GoSem.ClaimSeven
namespace Go.Proofs.YtodeblpanooomacDoor
namespace Rows

/-- THE TIED CARD OF 'creellaw.GlobChecks'. -/
def globChecksCard : Claim7 := { stood := { row := globChecksRow, standIns := [], harness := (true, "a2a812ddbee5df76ef9a02da071dbdd65bbc9e2ed05f0ecdae7c7718348776d3"), looks := false }, kinds := [], alts := [], laidByText := true, laidKinds := [.data, .pinned], laidTests := true, laidLooks := .later }
def GlobChecksCardSaid : Prop := Claim7.holds Tryd.pinned (.plain (OpenSpec.ofChange globChecksSpec)) globChecksCard

/-- THE TIED CARD OF 'creellaw.GlobFits'. -/
def globFitsCard : Claim7 := { stood := { row := globFitsRow, standIns := [], harness := (true, "a2a812ddbee5df76ef9a02da071dbdd65bbc9e2ed05f0ecdae7c7718348776d3"), looks := false }, kinds := [], alts := [], laidByText := true, laidKinds := [.data, .pinned], laidTests := true, laidLooks := .later }
def GlobFitsCardSaid : Prop := Claim7.holds Tryd.pinned (.plain (OpenSpec.ofChange globFitsSpec)) globFitsCard

/-- THE TIED CARD OF 'creellaw.FilterTakes'. -/
def filterTakesCard : Claim7 := { stood := { row := filterTakesRow, standIns := [], harness := (true, "a2a812ddbee5df76ef9a02da071dbdd65bbc9e2ed05f0ecdae7c7718348776d3"), looks := false }, kinds := [], alts := [], laidByText := true, laidKinds := [.data, .pinned], laidTests := true, laidLooks := .later }
def FilterTakesCardSaid : Prop := Claim7.holds Tryd.pinned (.plain (OpenSpec.ofChange filterTakesSpec)) filterTakesCard

/-- THE TIED CARD OF 'creellaw.FilterRuns'. -/
def filterRunsCard : Claim7 := { stood := { row := filterRunsRow, standIns := [], harness := (true, "a2a812ddbee5df76ef9a02da071dbdd65bbc9e2ed05f0ecdae7c7718348776d3"), looks := false }, kinds := [], alts := [], laidByText := true, laidKinds := [.data, .pinned], laidTests := true, laidLooks := .later }
def FilterRunsCardSaid : Prop := Claim7.holds Tryd.pinned (.plain (OpenSpec.ofChange filterRunsSpec)) filterRunsCard

/-- THE TIED CARD OF 'creellaw.PipeChecks'. -/
def pipeChecksCard : Claim7 := { stood := { row := pipeChecksRow, standIns := [], harness := (true, "a2a812ddbee5df76ef9a02da071dbdd65bbc9e2ed05f0ecdae7c7718348776d3"), looks := false }, kinds := [], alts := [], laidByText := true, laidKinds := [.data, .pinned], laidTests := true, laidLooks := .later }
def PipeChecksCardSaid : Prop := Claim7.holds Tryd.pinned (.plain (OpenSpec.ofChange pipeChecksSpec)) pipeChecksCard

/-- THE TIED CARD OF 'creellaw.DiffApplies'. -/
def diffAppliesCard : Claim7 := { stood := { row := diffAppliesRow, standIns := [], harness := (true, "a2a812ddbee5df76ef9a02da071dbdd65bbc9e2ed05f0ecdae7c7718348776d3"), looks := false }, kinds := [], alts := [], laidByText := true, laidKinds := [.data, .pinned], laidTests := true, laidLooks := .later }
def DiffAppliesCardSaid : Prop := Claim7.holds Tryd.pinned (.plain (OpenSpec.ofChange diffAppliesSpec)) diffAppliesCard

/-- THE SECOND FORM's CARD OF 'creellaw.GlobChecks'. -/
def globChecksUptoCard : Claim7 := { stood := { row := globChecksUptoRow, standIns := [], harness := (true, "a2a812ddbee5df76ef9a02da071dbdd65bbc9e2ed05f0ecdae7c7718348776d3"), looks := false }, kinds := [], alts := [], laidByText := true, laidKinds := [.data, .pinned], laidTests := true, laidLooks := .later }
def GlobChecksUptoCardSaid : Prop := Claim7.holds Tryd.pinned (.plain (OpenSpec.upto globChecksSpec)) globChecksUptoCard

/-- THE SECOND FORM's CARD OF 'creellaw.GlobFits'. -/
def globFitsUptoCard : Claim7 := { stood := { row := globFitsUptoRow, standIns := [], harness := (true, "a2a812ddbee5df76ef9a02da071dbdd65bbc9e2ed05f0ecdae7c7718348776d3"), looks := false }, kinds := [], alts := [], laidByText := true, laidKinds := [.data, .pinned], laidTests := true, laidLooks := .later }
def GlobFitsUptoCardSaid : Prop := Claim7.holds Tryd.pinned (.plain (OpenSpec.upto globFitsSpec)) globFitsUptoCard

/-- THE SECOND FORM's CARD OF 'creellaw.FilterTakes'. -/
def filterTakesUptoCard : Claim7 := { stood := { row := filterTakesUptoRow, standIns := [], harness := (true, "a2a812ddbee5df76ef9a02da071dbdd65bbc9e2ed05f0ecdae7c7718348776d3"), looks := false }, kinds := [], alts := [], laidByText := true, laidKinds := [.data, .pinned], laidTests := true, laidLooks := .later }
def FilterTakesUptoCardSaid : Prop := Claim7.holds Tryd.pinned (.plain (OpenSpec.upto filterTakesSpec)) filterTakesUptoCard

/-- THE SECOND FORM's CARD OF 'creellaw.FilterRuns'. -/
def filterRunsUptoCard : Claim7 := { stood := { row := filterRunsUptoRow, standIns := [], harness := (true, "a2a812ddbee5df76ef9a02da071dbdd65bbc9e2ed05f0ecdae7c7718348776d3"), looks := false }, kinds := [], alts := [], laidByText := true, laidKinds := [.data, .pinned], laidTests := true, laidLooks := .later }
def FilterRunsUptoCardSaid : Prop := Claim7.holds Tryd.pinned (.plain (OpenSpec.upto filterRunsSpec)) filterRunsUptoCard

/-- THE SECOND FORM's CARD OF 'creellaw.PipeChecks'. -/
def pipeChecksUptoCard : Claim7 := { stood := { row := pipeChecksUptoRow, standIns := [], harness := (true, "a2a812ddbee5df76ef9a02da071dbdd65bbc9e2ed05f0ecdae7c7718348776d3"), looks := false }, kinds := [], alts := [], laidByText := true, laidKinds := [.data, .pinned], laidTests := true, laidLooks := .later }
def PipeChecksUptoCardSaid : Prop := Claim7.holds Tryd.pinned (.plain (OpenSpec.upto pipeChecksSpec)) pipeChecksUptoCard

/-- THE SECOND FORM's CARD OF 'creellaw.DiffApplies'. -/
def diffAppliesUptoCard : Claim7 := { stood := { row := diffAppliesUptoRow, standIns := [], harness := (true, "a2a812ddbee5df76ef9a02da071dbdd65bbc9e2ed05f0ecdae7c7718348776d3"), looks := false }, kinds := [], alts := [], laidByText := true, laidKinds := [.data, .pinned], laidTests := true, laidLooks := .later }
def DiffAppliesUptoCardSaid : Prop := Claim7.holds Tryd.pinned (.plain (OpenSpec.upto diffAppliesSpec)) diffAppliesUptoCard
end Rows
end Go.Proofs.YtodeblpanooomacDoor
