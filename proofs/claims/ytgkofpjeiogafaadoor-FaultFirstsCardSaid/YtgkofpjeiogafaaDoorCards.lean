/-
  DERIVED. GIVEN WITH THE SEED: THE CARDS: each row of YtgkofpjeiogafaaDoorRows.lean that lists a variable, with what it lists TIED to the program's text (the seventh form; the later family's looks); each row that meets fmt, with fmt's text TOLD by the authors' own Lean function (tested against real Go, not proved from fmt's source: count such statements apart). THE CARD IS WHAT COUNTS. Prove the row's statement (the work); the ties are given (YtgkofpjeiogafaaDoorTie.lean); close each card by the builder's one call (the guide's Derived/Test/ToyasCard.lean, 'card_holds'). Laid BY PROGRAM, IN A SANDBOX (cutbox-door.mjs). By AI agents, Wed Nov 11 2026. No macro, syntax, notation, axiom, sorry.
-/
import Derived.Test.YtgkofpjeiogafaaDoorRows
import GoSem.ClaimSeven
namespace Go.Proofs.YtgkofpjeiogafaaDoor
namespace Rows

/-- THE TIED CARD OF 'creellaw.HeadReads'. -/
def headReadsCard : Claim7 := { stood := { row := headReadsRow, standIns := [], harness := (true, "5b658f800ea57a384ad4f581b64ac7e8194eba8b3b5c068a0c759821c38557a2"), looks := false }, kinds := [], alts := [], laidByText := true, laidKinds := [.data, .pinned], laidTests := true, laidLooks := .later }
def HeadReadsCardSaid : Prop := Claim7.holds Tryd.pinned (.plain (OpenSpec.ofChange headReadsSpec)) headReadsCard

/-- THE TIED CARD OF 'creellaw.TreeChecks'. -/
def treeChecksCard : Claim7 := { stood := { row := treeChecksRow, standIns := [], harness := (true, "5b658f800ea57a384ad4f581b64ac7e8194eba8b3b5c068a0c759821c38557a2"), looks := false }, kinds := [], alts := [], laidByText := true, laidKinds := [.data, .pinned], laidTests := true, laidLooks := .later }
def TreeChecksCardSaid : Prop := Claim7.holds Tryd.pinned (.plain (OpenSpec.ofChange treeChecksSpec)) treeChecksCard

/-- THE TIED CARD OF 'creellaw.PlanChecks'. -/
def planChecksCard : Claim7 := { stood := { row := planChecksRow, standIns := [], harness := (true, "5b658f800ea57a384ad4f581b64ac7e8194eba8b3b5c068a0c759821c38557a2"), looks := false }, kinds := [], alts := [], laidByText := true, laidKinds := [.data, .pinned], laidTests := true, laidLooks := .later }
def PlanChecksCardSaid : Prop := Claim7.holds Tryd.pinned (.plain (OpenSpec.ofChange planChecksSpec)) planChecksCard

/-- THE TIED CARD OF 'creellaw.FaultFirsts'. -/
def faultFirstsCard : Claim7 := { stood := { row := faultFirstsRow, standIns := [], harness := (true, "5b658f800ea57a384ad4f581b64ac7e8194eba8b3b5c068a0c759821c38557a2"), looks := false }, kinds := [], alts := [], laidByText := true, laidKinds := [.data, .pinned], laidTests := true, laidLooks := .later }
def FaultFirstsCardSaid : Prop := Claim7.holds Tryd.pinned (.plain (OpenSpec.ofChange faultFirstsSpec)) faultFirstsCard

/-- THE TIED CARD OF 'creellaw.GlobChecks'. -/
def globChecksCard : Claim7 := { stood := { row := globChecksRow, standIns := [], harness := (true, "5b658f800ea57a384ad4f581b64ac7e8194eba8b3b5c068a0c759821c38557a2"), looks := false }, kinds := [], alts := [], laidByText := true, laidKinds := [.data, .pinned], laidTests := true, laidLooks := .later }
def GlobChecksCardSaid : Prop := Claim7.holds Tryd.pinned (.plain (OpenSpec.ofChange globChecksSpec)) globChecksCard

/-- THE SECOND FORM's CARD OF 'creellaw.HeadReads'. -/
def headReadsUptoCard : Claim7 := { stood := { row := headReadsUptoRow, standIns := [], harness := (true, "5b658f800ea57a384ad4f581b64ac7e8194eba8b3b5c068a0c759821c38557a2"), looks := false }, kinds := [], alts := [], laidByText := true, laidKinds := [.data, .pinned], laidTests := true, laidLooks := .later }
def HeadReadsUptoCardSaid : Prop := Claim7.holds Tryd.pinned (.plain (OpenSpec.upto headReadsSpec)) headReadsUptoCard

/-- THE SECOND FORM's CARD OF 'creellaw.TreeChecks'. -/
def treeChecksUptoCard : Claim7 := { stood := { row := treeChecksUptoRow, standIns := [], harness := (true, "5b658f800ea57a384ad4f581b64ac7e8194eba8b3b5c068a0c759821c38557a2"), looks := false }, kinds := [], alts := [], laidByText := true, laidKinds := [.data, .pinned], laidTests := true, laidLooks := .later }
def TreeChecksUptoCardSaid : Prop := Claim7.holds Tryd.pinned (.plain (OpenSpec.upto treeChecksSpec)) treeChecksUptoCard

/-- THE SECOND FORM's CARD OF 'creellaw.PlanChecks'. -/
def planChecksUptoCard : Claim7 := { stood := { row := planChecksUptoRow, standIns := [], harness := (true, "5b658f800ea57a384ad4f581b64ac7e8194eba8b3b5c068a0c759821c38557a2"), looks := false }, kinds := [], alts := [], laidByText := true, laidKinds := [.data, .pinned], laidTests := true, laidLooks := .later }
def PlanChecksUptoCardSaid : Prop := Claim7.holds Tryd.pinned (.plain (OpenSpec.upto planChecksSpec)) planChecksUptoCard

/-- THE SECOND FORM's CARD OF 'creellaw.FaultFirsts'. -/
def faultFirstsUptoCard : Claim7 := { stood := { row := faultFirstsUptoRow, standIns := [], harness := (true, "5b658f800ea57a384ad4f581b64ac7e8194eba8b3b5c068a0c759821c38557a2"), looks := false }, kinds := [], alts := [], laidByText := true, laidKinds := [.data, .pinned], laidTests := true, laidLooks := .later }
def FaultFirstsUptoCardSaid : Prop := Claim7.holds Tryd.pinned (.plain (OpenSpec.upto faultFirstsSpec)) faultFirstsUptoCard

/-- THE SECOND FORM's CARD OF 'creellaw.GlobChecks'. -/
def globChecksUptoCard : Claim7 := { stood := { row := globChecksUptoRow, standIns := [], harness := (true, "5b658f800ea57a384ad4f581b64ac7e8194eba8b3b5c068a0c759821c38557a2"), looks := false }, kinds := [], alts := [], laidByText := true, laidKinds := [.data, .pinned], laidTests := true, laidLooks := .later }
def GlobChecksUptoCardSaid : Prop := Claim7.holds Tryd.pinned (.plain (OpenSpec.upto globChecksSpec)) globChecksUptoCard
end Rows
end Go.Proofs.YtgkofpjeiogafaaDoor
