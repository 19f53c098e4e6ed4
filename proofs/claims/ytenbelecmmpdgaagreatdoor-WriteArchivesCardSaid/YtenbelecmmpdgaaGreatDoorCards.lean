/-
  DERIVED. GIVEN WITH THE SEED: THE CARDS: each row of YtenbelecmmpdgaaGreatDoorRows.lean that lists a variable, with what it lists TIED to the program's text (the seventh form; the later family's looks); each row that meets fmt, with fmt's text TOLD by the authors' own Lean function (tested against real Go, not proved from fmt's source: count such statements apart). THE CARD IS WHAT COUNTS. Prove the row's statement (the work); the ties are given (YtenbelecmmpdgaaGreatDoorTie.lean); close each card by the builder's one call (the guide's Derived/Test/ToyasCard.lean, 'card_holds'). Laid BY PROGRAM, IN A SANDBOX (cutbox-door.mjs). By AI agents, Wed Nov 11 2026. No macro, syntax, notation, axiom, sorry.
-/
import Derived.Test.YtenbelecmmpdgaaGreatDoorRows
import GoSem.ClaimSeven
namespace Go.Proofs.YtenbelecmmpdgaaGreatDoor
namespace Rows

/-- THE TIED CARD OF 'creellaw.MemberWrites'. -/
def memberWritesCard : Claim7 := { stood := { row := memberWritesRow, standIns := [], harness := (true, "529bcf217c9a174e393b3199ea5e18615755ba191643a2580799dd7c34621f3c"), looks := true }, kinds := [], alts := [], laidByText := true, laidKinds := [.data, .data, .data, .data, .pinned], laidTests := true, laidLooks := .later }
def MemberWritesCardSaid : Prop := Claim7.holds Tryz.pinned (.plain (OpenSpec.ofChange memberWritesSpec)) memberWritesCard

/-- THE TIED CARD OF 'creellaw.WriteArchives'. -/
def writeArchivesCard : Claim7 := { stood := { row := writeArchivesRow, standIns := [], harness := (true, "529bcf217c9a174e393b3199ea5e18615755ba191643a2580799dd7c34621f3c"), looks := true }, kinds := [], alts := [], laidByText := true, laidKinds := [.data, .data, .data, .data, .pinned], laidTests := true, laidLooks := .later }
def WriteArchivesCardSaid : Prop := Claim7.holds Tryz.pinned (.plain (OpenSpec.ofChange writeArchivesSpec)) writeArchivesCard

/-- THE TIED CARD OF 'creellaw.MemberReads'. -/
def memberReadsCard : Claim7 := { stood := { row := memberReadsRow, standIns := [], harness := (true, "529bcf217c9a174e393b3199ea5e18615755ba191643a2580799dd7c34621f3c"), looks := true }, kinds := [], alts := [], laidByText := true, laidKinds := [.data, .data, .data, .data, .sentinel, .sentinel, .pinned], laidTests := true, laidLooks := .later }
def MemberReadsCardSaid : Prop := Claim7.holds Tryz.pinned (.plain (OpenSpec.ofChange memberReadsSpec)) memberReadsCard

/-- THE TIED CARD OF 'creellaw.ReadArchives'. -/
def readArchivesCard : Claim7 := { stood := { row := readArchivesRow, standIns := [], harness := (true, "529bcf217c9a174e393b3199ea5e18615755ba191643a2580799dd7c34621f3c"), looks := true }, kinds := [], alts := [], laidByText := true, laidKinds := [.data, .data, .data, .data, .sentinel, .sentinel, .pinned], laidTests := true, laidLooks := .later }
def ReadArchivesCardSaid : Prop := Claim7.holds Tryz.pinned (.plain (OpenSpec.ofChange readArchivesSpec)) readArchivesCard

/-- THE TIED CARD OF 'creellaw.ReadSomes'. -/
def readSomesCard : Claim7 := { stood := { row := readSomesRow, standIns := [], harness := (true, "529bcf217c9a174e393b3199ea5e18615755ba191643a2580799dd7c34621f3c"), looks := true }, kinds := [], alts := [], laidByText := true, laidKinds := [.data, .data, .data, .data, .sentinel, .sentinel, .pinned], laidTests := true, laidLooks := .later }
def ReadSomesCardSaid : Prop := Claim7.holds Tryz.pinned (.plain (OpenSpec.ofChange readSomesSpec)) readSomesCard

/-- THE SECOND FORM's CARD OF 'creellaw.MemberWrites'. -/
def memberWritesUptoCard : Claim7 := { stood := { row := memberWritesUptoRow, standIns := [], harness := (true, "529bcf217c9a174e393b3199ea5e18615755ba191643a2580799dd7c34621f3c"), looks := true }, kinds := [], alts := [], laidByText := true, laidKinds := [.data, .data, .data, .data, .pinned], laidTests := true, laidLooks := .later }
def MemberWritesUptoCardSaid : Prop := Claim7.holds Tryz.pinned (.plain (OpenSpec.upto memberWritesSpec)) memberWritesUptoCard

/-- THE SECOND FORM's CARD OF 'creellaw.WriteArchives'. -/
def writeArchivesUptoCard : Claim7 := { stood := { row := writeArchivesUptoRow, standIns := [], harness := (true, "529bcf217c9a174e393b3199ea5e18615755ba191643a2580799dd7c34621f3c"), looks := true }, kinds := [], alts := [], laidByText := true, laidKinds := [.data, .data, .data, .data, .pinned], laidTests := true, laidLooks := .later }
def WriteArchivesUptoCardSaid : Prop := Claim7.holds Tryz.pinned (.plain (OpenSpec.upto writeArchivesSpec)) writeArchivesUptoCard

/-- THE SECOND FORM's CARD OF 'creellaw.MemberReads'. -/
def memberReadsUptoCard : Claim7 := { stood := { row := memberReadsUptoRow, standIns := [], harness := (true, "529bcf217c9a174e393b3199ea5e18615755ba191643a2580799dd7c34621f3c"), looks := true }, kinds := [], alts := [], laidByText := true, laidKinds := [.data, .data, .data, .data, .sentinel, .sentinel, .pinned], laidTests := true, laidLooks := .later }
def MemberReadsUptoCardSaid : Prop := Claim7.holds Tryz.pinned (.plain (OpenSpec.upto memberReadsSpec)) memberReadsUptoCard

/-- THE SECOND FORM's CARD OF 'creellaw.ReadArchives'. -/
def readArchivesUptoCard : Claim7 := { stood := { row := readArchivesUptoRow, standIns := [], harness := (true, "529bcf217c9a174e393b3199ea5e18615755ba191643a2580799dd7c34621f3c"), looks := true }, kinds := [], alts := [], laidByText := true, laidKinds := [.data, .data, .data, .data, .sentinel, .sentinel, .pinned], laidTests := true, laidLooks := .later }
def ReadArchivesUptoCardSaid : Prop := Claim7.holds Tryz.pinned (.plain (OpenSpec.upto readArchivesSpec)) readArchivesUptoCard

/-- THE SECOND FORM's CARD OF 'creellaw.ReadSomes'. -/
def readSomesUptoCard : Claim7 := { stood := { row := readSomesUptoRow, standIns := [], harness := (true, "529bcf217c9a174e393b3199ea5e18615755ba191643a2580799dd7c34621f3c"), looks := true }, kinds := [], alts := [], laidByText := true, laidKinds := [.data, .data, .data, .data, .sentinel, .sentinel, .pinned], laidTests := true, laidLooks := .later }
def ReadSomesUptoCardSaid : Prop := Claim7.holds Tryz.pinned (.plain (OpenSpec.upto readSomesSpec)) readSomesUptoCard
end Rows
end Go.Proofs.YtenbelecmmpdgaaGreatDoor
