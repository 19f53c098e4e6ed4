/- Made by a program of the prover: what the statement says of the plain functions, and the step from that to the row; no condition of its own. -/
import Derived.Test.YtmcofelbcjgagaaFCreellawMetaParses
import Derived.Test.YtmcofelbcjgagaaWOpens
namespace Go.Proofs.Ytmcofelbcjgagaa.GMetaParses
open Go.RowKit Go.Proofs.Ytmcofelbcjgagaa.All Go.Proofs.YtmcofelbcjgagaaW.PrintWords Go.Proofs.YtmcofelbcjgagaaW.PrintLast Go.Proofs.YtmcofelbcjgagaaW.Opens
set_option linter.unusedVariables false
/-- What is to be proved of the plain functions. -/
def Pure : Prop := ∀ (a0 : ByteArray), (a0.size ≤ 140737488351232) → ∃ k, creellaw_MetaParses.f k a0 = some true
theorem walk (P : Pure) (a0 : ByteArray) (w : World) (g0 : a0.size ≤ 140737488351232)  :
    Calls Try.prog 4 #[.string a0] w fun e w' => e = .returned (.bool true) ∧ Below w.heap.size w w' := by
  obtain ⟨k, h⟩ := P a0 g0
  refine (creellaw_MetaParses.calls k a0 true w h).mono ?_
  rintro e w' ⟨rfl, hd⟩
  exact ⟨rfl, hd⟩
end Go.Proofs.Ytmcofelbcjgagaa.GMetaParses
