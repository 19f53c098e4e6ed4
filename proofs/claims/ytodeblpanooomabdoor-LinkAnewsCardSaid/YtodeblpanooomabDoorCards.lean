/-
  DERIVED. GIVEN WITH THE SEED: THE CARDS: each row of YtodeblpanooomabDoorRows.lean that lists a variable, with what it lists TIED to the program's text (the seventh form; the later family's looks); each row that meets fmt, with fmt's text TOLD by the authors' own Lean function (tested against real Go, not proved from fmt's source: count such statements apart). THE CARD IS WHAT COUNTS. Prove the row's statement (the work); the ties are given (YtodeblpanooomabDoorTie.lean); close each card by the builder's one call (the guide's Derived/Test/ToyasCard.lean, 'card_holds'). Laid BY PROGRAM, IN A SANDBOX (cutbox-door.mjs). By AI agents, Wed Nov 11 2026. No macro, syntax, notation, axiom, sorry.
-/
import Derived.Test.YtodeblpanooomabDoorRows
import GoSem.ClaimSeven
namespace Go.Proofs.YtodeblpanooomabDoor
namespace Rows

/-- THE TIED CARD OF 'creellaw.LinkFirsts'. -/
def linkFirstsCard : Claim7 := { stood := { row := linkFirstsRow, standIns := [], harness := (true, "fd3cbadf257d839e557b406ea67e375d15d834549463a21de7d574c99c57e66e"), looks := false }, kinds := [], alts := [], laidByText := true, laidKinds := [.data, .pinned], laidTests := true, laidLooks := .later }
def LinkFirstsCardSaid : Prop := Claim7.holds Tryd.pinned (.plain (OpenSpec.ofChange linkFirstsSpec)) linkFirstsCard

/-- THE TIED CARD OF 'creellaw.LinkAnews'. -/
def linkAnewsCard : Claim7 := { stood := { row := linkAnewsRow, standIns := [], harness := (true, "fd3cbadf257d839e557b406ea67e375d15d834549463a21de7d574c99c57e66e"), looks := false }, kinds := [], alts := [], laidByText := true, laidKinds := [.data, .pinned], laidTests := true, laidLooks := .later }
def LinkAnewsCardSaid : Prop := Claim7.holds Tryd.pinned (.plain (OpenSpec.ofChange linkAnewsSpec)) linkAnewsCard

/-- THE TIED CARD OF 'creellaw.PlanGrows'. -/
def planGrowsCard : Claim7 := { stood := { row := planGrowsRow, standIns := [], harness := (true, "fd3cbadf257d839e557b406ea67e375d15d834549463a21de7d574c99c57e66e"), looks := false }, kinds := [], alts := [], laidByText := true, laidKinds := [.data, .pinned], laidTests := true, laidLooks := .later }
def PlanGrowsCardSaid : Prop := Claim7.holds Tryd.pinned (.plain (OpenSpec.ofChange planGrowsSpec)) planGrowsCard

/-- THE TIED CARD OF 'creellaw.DiffAlikes'. -/
def diffAlikesCard : Claim7 := { stood := { row := diffAlikesRow, standIns := [], harness := (true, "fd3cbadf257d839e557b406ea67e375d15d834549463a21de7d574c99c57e66e"), looks := false }, kinds := [], alts := [], laidByText := true, laidKinds := [.data, .pinned], laidTests := true, laidLooks := .later }
def DiffAlikesCardSaid : Prop := Claim7.holds Tryd.pinned (.plain (OpenSpec.ofChange diffAlikesSpec)) diffAlikesCard

/-- THE TIED CARD OF 'creellaw.DiffTells'. -/
def diffTellsCard : Claim7 := { stood := { row := diffTellsRow, standIns := [], harness := (true, "fd3cbadf257d839e557b406ea67e375d15d834549463a21de7d574c99c57e66e"), looks := false }, kinds := [], alts := [], laidByText := true, laidKinds := [.data, .pinned], laidTests := true, laidLooks := .later }
def DiffTellsCardSaid : Prop := Claim7.holds Tryd.pinned (.plain (OpenSpec.ofChange diffTellsSpec)) diffTellsCard

/-- THE TIED CARD OF 'creellaw.OrderWalks'. -/
def orderWalksCard : Claim7 := { stood := { row := orderWalksRow, standIns := [], harness := (true, "fd3cbadf257d839e557b406ea67e375d15d834549463a21de7d574c99c57e66e"), looks := false }, kinds := [], alts := [], laidByText := true, laidKinds := [.data, .pinned], laidTests := true, laidLooks := .later }
def OrderWalksCardSaid : Prop := Claim7.holds Tryd.pinned (.plain (OpenSpec.ofChange orderWalksSpec)) orderWalksCard

/-- THE SECOND FORM's CARD OF 'creellaw.LinkFirsts'. -/
def linkFirstsUptoCard : Claim7 := { stood := { row := linkFirstsUptoRow, standIns := [], harness := (true, "fd3cbadf257d839e557b406ea67e375d15d834549463a21de7d574c99c57e66e"), looks := false }, kinds := [], alts := [], laidByText := true, laidKinds := [.data, .pinned], laidTests := true, laidLooks := .later }
def LinkFirstsUptoCardSaid : Prop := Claim7.holds Tryd.pinned (.plain (OpenSpec.upto linkFirstsSpec)) linkFirstsUptoCard

/-- THE SECOND FORM's CARD OF 'creellaw.LinkAnews'. -/
def linkAnewsUptoCard : Claim7 := { stood := { row := linkAnewsUptoRow, standIns := [], harness := (true, "fd3cbadf257d839e557b406ea67e375d15d834549463a21de7d574c99c57e66e"), looks := false }, kinds := [], alts := [], laidByText := true, laidKinds := [.data, .pinned], laidTests := true, laidLooks := .later }
def LinkAnewsUptoCardSaid : Prop := Claim7.holds Tryd.pinned (.plain (OpenSpec.upto linkAnewsSpec)) linkAnewsUptoCard

/-- THE SECOND FORM's CARD OF 'creellaw.PlanGrows'. -/
def planGrowsUptoCard : Claim7 := { stood := { row := planGrowsUptoRow, standIns := [], harness := (true, "fd3cbadf257d839e557b406ea67e375d15d834549463a21de7d574c99c57e66e"), looks := false }, kinds := [], alts := [], laidByText := true, laidKinds := [.data, .pinned], laidTests := true, laidLooks := .later }
def PlanGrowsUptoCardSaid : Prop := Claim7.holds Tryd.pinned (.plain (OpenSpec.upto planGrowsSpec)) planGrowsUptoCard

/-- THE SECOND FORM's CARD OF 'creellaw.DiffAlikes'. -/
def diffAlikesUptoCard : Claim7 := { stood := { row := diffAlikesUptoRow, standIns := [], harness := (true, "fd3cbadf257d839e557b406ea67e375d15d834549463a21de7d574c99c57e66e"), looks := false }, kinds := [], alts := [], laidByText := true, laidKinds := [.data, .pinned], laidTests := true, laidLooks := .later }
def DiffAlikesUptoCardSaid : Prop := Claim7.holds Tryd.pinned (.plain (OpenSpec.upto diffAlikesSpec)) diffAlikesUptoCard

/-- THE SECOND FORM's CARD OF 'creellaw.DiffTells'. -/
def diffTellsUptoCard : Claim7 := { stood := { row := diffTellsUptoRow, standIns := [], harness := (true, "fd3cbadf257d839e557b406ea67e375d15d834549463a21de7d574c99c57e66e"), looks := false }, kinds := [], alts := [], laidByText := true, laidKinds := [.data, .pinned], laidTests := true, laidLooks := .later }
def DiffTellsUptoCardSaid : Prop := Claim7.holds Tryd.pinned (.plain (OpenSpec.upto diffTellsSpec)) diffTellsUptoCard

/-- THE SECOND FORM's CARD OF 'creellaw.OrderWalks'. -/
def orderWalksUptoCard : Claim7 := { stood := { row := orderWalksUptoRow, standIns := [], harness := (true, "fd3cbadf257d839e557b406ea67e375d15d834549463a21de7d574c99c57e66e"), looks := false }, kinds := [], alts := [], laidByText := true, laidKinds := [.data, .pinned], laidTests := true, laidLooks := .later }
def OrderWalksUptoCardSaid : Prop := Claim7.holds Tryd.pinned (.plain (OpenSpec.upto orderWalksSpec)) orderWalksUptoCard
end Rows
end Go.Proofs.YtodeblpanooomabDoor
