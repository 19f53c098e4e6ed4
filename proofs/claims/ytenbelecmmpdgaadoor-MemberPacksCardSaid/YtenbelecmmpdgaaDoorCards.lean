/-
  DERIVED. GIVEN WITH THE SEED: THE CARDS: each row of YtenbelecmmpdgaaDoorRows.lean that lists a variable, with what it lists TIED to the program's text (the seventh form; the later family's looks); each row that meets fmt, with fmt's text TOLD by the authors' own Lean function (tested against real Go, not proved from fmt's source: count such statements apart). THE CARD IS WHAT COUNTS. Prove the row's statement (the work); the ties are given (YtenbelecmmpdgaaDoorTie.lean); close each card by the builder's one call (the guide's Derived/Test/ToyasCard.lean, 'card_holds'). Laid BY PROGRAM, IN A SANDBOX (cutbox-door.mjs). By AI agents, Wed Nov 11 2026. No macro, syntax, notation, axiom, sorry.
-/
import Derived.Test.YtenbelecmmpdgaaDoorRows
import GoSem.ClaimSeven
namespace Go.Proofs.YtenbelecmmpdgaaDoor
namespace Rows

/-- THE TIED CARD OF 'creellaw.MemberPacks'. -/
def memberPacksCard : Claim7 := { stood := { row := memberPacksRow, standIns := [], harness := (true, "621194b49e7c3ec905c21b30b3490b4b4c67bafd142a1343ae33c5bc42b6d9c3"), looks := false }, kinds := [], alts := [], laidByText := true, laidKinds := [.data, .data, .data, .data, .pinned], laidTests := true, laidLooks := .later }
def MemberPacksCardSaid : Prop := Claim7.holds Tryd.pinned (.plain (OpenSpec.ofChange memberPacksSpec)) memberPacksCard

/-- THE SECOND FORM's CARD OF 'creellaw.MemberPacks'. -/
def memberPacksUptoCard : Claim7 := { stood := { row := memberPacksUptoRow, standIns := [], harness := (true, "621194b49e7c3ec905c21b30b3490b4b4c67bafd142a1343ae33c5bc42b6d9c3"), looks := false }, kinds := [], alts := [], laidByText := true, laidKinds := [.data, .data, .data, .data, .pinned], laidTests := true, laidLooks := .later }
def MemberPacksUptoCardSaid : Prop := Claim7.holds Tryd.pinned (.plain (OpenSpec.upto memberPacksSpec)) memberPacksUptoCard
end Rows
end Go.Proofs.YtenbelecmmpdgaaDoor
