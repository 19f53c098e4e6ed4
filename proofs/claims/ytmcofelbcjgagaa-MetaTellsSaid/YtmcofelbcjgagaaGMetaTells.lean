/- Made by a program of the prover: what the statement says of the plain functions, and the step from that to the row; no condition of its own. -/
import Derived.Test.YtmcofelbcjgagaaFCreellawMetaTells
import Derived.Test.YtmcofelbcjgagaaWOpens
namespace Go.Proofs.Ytmcofelbcjgagaa.GMetaTells
open Go.RowKit Go.Proofs.Ytmcofelbcjgagaa.All Go.Proofs.YtmcofelbcjgagaaW.PrintWords Go.Proofs.YtmcofelbcjgagaaW.PrintLast Go.Proofs.YtmcofelbcjgagaaW.Opens
set_option linter.unusedVariables false
/-- What is to be proved of the plain functions. -/
def Pure : Prop := ∀ (a0 : Int), ((Lit.int .i64 a0).wf = true) → creellaw_MetaTells.f a0 = some true
theorem walk (P : Pure) (a0 : Int) (w : World) (g0 : (Lit.int .i64 a0).wf = true)  :
    Calls Try.prog 3 #[.int .i64 a0] w fun e w' => e = .returned (.bool true) ∧ Below w.heap.size w w' := by
  have h := P a0 g0
  refine (creellaw_MetaTells.calls a0 true w h).mono ?_
  rintro e w' ⟨rfl, hd⟩
  exact ⟨rfl, hd⟩
end Go.Proofs.Ytmcofelbcjgagaa.GMetaTells
