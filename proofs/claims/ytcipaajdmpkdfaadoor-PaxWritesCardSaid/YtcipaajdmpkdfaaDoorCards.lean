/-
  DERIVED. GIVEN WITH THE SEED: THE CARDS: each row of YtcipaajdmpkdfaaDoorRows.lean that lists a variable, with what it lists TIED to the program's text (the seventh form; the later family's looks); each row that meets fmt, with fmt's text TOLD by the authors' own Lean function (tested against real Go, not proved from fmt's source: count such statements apart). THE CARD IS WHAT COUNTS. Prove the row's statement (the work); the ties are given (YtcipaajdmpkdfaaDoorTie.lean); close each card by the builder's one call (the guide's Derived/Test/ToyasCard.lean, 'card_holds'). Laid BY PROGRAM, IN A SANDBOX (cutbox-door.mjs). By AI agents, Wed Nov 11 2026. No macro, syntax, notation, axiom, sorry.
-/
import Derived.Test.YtcipaajdmpkdfaaDoorRows
import GoSem.ClaimSeven
namespace Go.Proofs.YtcipaajdmpkdfaaDoor
namespace Rows

/-- THE TIED CARD OF 'creellaw.GlobChecks'. -/
def globChecksCard : Claim7 := { stood := { row := globChecksRow, standIns := [], harness := (true, "d217afe60af5526200a4e6de94a52662d4b3bc0d65368e807009f9a9d9ef754c"), looks := false }, kinds := [], alts := [], laidByText := true, laidKinds := [.data, .pinned], laidTests := true, laidLooks := .later }
def GlobChecksCardSaid : Prop := Claim7.holds Tryd.pinned (.plain (OpenSpec.ofChange globChecksSpec)) globChecksCard

/-- THE TIED CARD OF 'creellaw.RecordWrites'. -/
def recordWritesCard : Claim7 := { stood := { row := recordWritesRow, standIns := [], harness := (true, "d217afe60af5526200a4e6de94a52662d4b3bc0d65368e807009f9a9d9ef754c"), looks := false }, kinds := [], alts := [], laidByText := true, laidKinds := [.data, .data, .data], laidTests := true, laidLooks := .later }
def RecordWritesCardSaid : Prop := Claim7.holds Tryd.pinned (.plain (OpenSpec.ofChange recordWritesSpec)) recordWritesCard

/-- THE TIED CARD OF 'creellaw.PlanChecks'. -/
def planChecksCard : Claim7 := { stood := { row := planChecksRow, standIns := [], harness := (true, "d217afe60af5526200a4e6de94a52662d4b3bc0d65368e807009f9a9d9ef754c"), looks := false }, kinds := [], alts := [], laidByText := true, laidKinds := [.data, .pinned], laidTests := true, laidLooks := .later }
def PlanChecksCardSaid : Prop := Claim7.holds Tryd.pinned (.plain (OpenSpec.ofChange planChecksSpec)) planChecksCard

/-- THE TIED CARD OF 'creellaw.TreeChecks'. -/
def treeChecksCard : Claim7 := { stood := { row := treeChecksRow, standIns := [], harness := (true, "d217afe60af5526200a4e6de94a52662d4b3bc0d65368e807009f9a9d9ef754c"), looks := false }, kinds := [], alts := [], laidByText := true, laidKinds := [.data, .pinned], laidTests := true, laidLooks := .later }
def TreeChecksCardSaid : Prop := Claim7.holds Tryd.pinned (.plain (OpenSpec.ofChange treeChecksSpec)) treeChecksCard

/-- THE TIED CARD OF 'creellaw.PaxWrites'. -/
def paxWritesCard : Claim7 := { stood := { row := paxWritesRow, standIns := [], harness := (true, "d217afe60af5526200a4e6de94a52662d4b3bc0d65368e807009f9a9d9ef754c"), looks := false }, kinds := [], alts := [], laidByText := true, laidKinds := [.data, .data, .data], laidTests := true, laidLooks := .later }
def PaxWritesCardSaid : Prop := Claim7.holds Tryd.pinned (.plain (OpenSpec.ofChange paxWritesSpec)) paxWritesCard

/-- THE TIED CARD OF 'creellaw.FaultFirsts'. -/
def faultFirstsCard : Claim7 := { stood := { row := faultFirstsRow, standIns := [], harness := (true, "d217afe60af5526200a4e6de94a52662d4b3bc0d65368e807009f9a9d9ef754c"), looks := false }, kinds := [], alts := [], laidByText := true, laidKinds := [.data, .pinned], laidTests := true, laidLooks := .later }
def FaultFirstsCardSaid : Prop := Claim7.holds Tryd.pinned (.plain (OpenSpec.ofChange faultFirstsSpec)) faultFirstsCard

/-- THE SECOND FORM's CARD OF 'creellaw.GlobChecks'. -/
def globChecksUptoCard : Claim7 := { stood := { row := globChecksUptoRow, standIns := [], harness := (true, "d217afe60af5526200a4e6de94a52662d4b3bc0d65368e807009f9a9d9ef754c"), looks := false }, kinds := [], alts := [], laidByText := true, laidKinds := [.data, .pinned], laidTests := true, laidLooks := .later }
def GlobChecksUptoCardSaid : Prop := Claim7.holds Tryd.pinned (.plain (OpenSpec.upto globChecksSpec)) globChecksUptoCard

/-- THE SECOND FORM's CARD OF 'creellaw.RecordWrites'. -/
def recordWritesUptoCard : Claim7 := { stood := { row := recordWritesUptoRow, standIns := [], harness := (true, "d217afe60af5526200a4e6de94a52662d4b3bc0d65368e807009f9a9d9ef754c"), looks := false }, kinds := [], alts := [], laidByText := true, laidKinds := [.data, .data, .data], laidTests := true, laidLooks := .later }
def RecordWritesUptoCardSaid : Prop := Claim7.holds Tryd.pinned (.plain (OpenSpec.upto recordWritesSpec)) recordWritesUptoCard

/-- THE SECOND FORM's CARD OF 'creellaw.PlanChecks'. -/
def planChecksUptoCard : Claim7 := { stood := { row := planChecksUptoRow, standIns := [], harness := (true, "d217afe60af5526200a4e6de94a52662d4b3bc0d65368e807009f9a9d9ef754c"), looks := false }, kinds := [], alts := [], laidByText := true, laidKinds := [.data, .pinned], laidTests := true, laidLooks := .later }
def PlanChecksUptoCardSaid : Prop := Claim7.holds Tryd.pinned (.plain (OpenSpec.upto planChecksSpec)) planChecksUptoCard

/-- THE SECOND FORM's CARD OF 'creellaw.TreeChecks'. -/
def treeChecksUptoCard : Claim7 := { stood := { row := treeChecksUptoRow, standIns := [], harness := (true, "d217afe60af5526200a4e6de94a52662d4b3bc0d65368e807009f9a9d9ef754c"), looks := false }, kinds := [], alts := [], laidByText := true, laidKinds := [.data, .pinned], laidTests := true, laidLooks := .later }
def TreeChecksUptoCardSaid : Prop := Claim7.holds Tryd.pinned (.plain (OpenSpec.upto treeChecksSpec)) treeChecksUptoCard

/-- THE SECOND FORM's CARD OF 'creellaw.PaxWrites'. -/
def paxWritesUptoCard : Claim7 := { stood := { row := paxWritesUptoRow, standIns := [], harness := (true, "d217afe60af5526200a4e6de94a52662d4b3bc0d65368e807009f9a9d9ef754c"), looks := false }, kinds := [], alts := [], laidByText := true, laidKinds := [.data, .data, .data], laidTests := true, laidLooks := .later }
def PaxWritesUptoCardSaid : Prop := Claim7.holds Tryd.pinned (.plain (OpenSpec.upto paxWritesSpec)) paxWritesUptoCard

/-- THE SECOND FORM's CARD OF 'creellaw.FaultFirsts'. -/
def faultFirstsUptoCard : Claim7 := { stood := { row := faultFirstsUptoRow, standIns := [], harness := (true, "d217afe60af5526200a4e6de94a52662d4b3bc0d65368e807009f9a9d9ef754c"), looks := false }, kinds := [], alts := [], laidByText := true, laidKinds := [.data, .pinned], laidTests := true, laidLooks := .later }
def FaultFirstsUptoCardSaid : Prop := Claim7.holds Tryd.pinned (.plain (OpenSpec.upto faultFirstsSpec)) faultFirstsUptoCard
end Rows
end Go.Proofs.YtcipaajdmpkdfaaDoor
