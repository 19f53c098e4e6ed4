/- Made by a program of the prover: what the statement says of the plain functions, and the step from that to the row; no condition of its own. -/
import Derived.Test.YtmeffcjjfiebdaaDoorFCreellawStampTells
import Derived.Test.YtmeffcjjfiebdaaDoorWOpens
namespace Go.Proofs.YtmeffcjjfiebdaaDoor.GStampTells
open Go.RowKit Go.Proofs.YtmeffcjjfiebdaaDoor.All Go.Proofs.YtmeffcjjfiebdaaDoorW.PrintWords Go.Proofs.YtmeffcjjfiebdaaDoorW.PrintLast Go.Proofs.YtmeffcjjfiebdaaDoorW.Opens
set_option linter.unusedVariables false
/-- What is to be proved of the plain functions. -/
def Pure : Prop := ∀ (a0 : Int) (a1 : Int), ((Lit.int .i64 a0).wf = true) → ((Lit.int .i64 a1).wf = true) → ∃ k, creellaw_StampTells.f k a0 a1 = some true
theorem walk (P : Pure) (a0 : Int) (a1 : Int) (w : World) (g0 : (Lit.int .i64 a0).wf = true) (g1 : (Lit.int .i64 a1).wf = true) (HT0 : Aside0 (Go.Proofs.YtmeffcjjfiebdaaDoorW.Mine.Tab w)) :
    Calls Tryd.prog 4 #[.int .i64 a0, .int .i64 a1] w fun e w' => e = .returned (.bool true) ∧ Below w.heap.size w w' := by
  obtain ⟨k, h⟩ := P a0 a1 g0 g1
  refine (creellaw_StampTells.calls k a0 a1 true w HT0 h).mono ?_
  rintro e w' ⟨rfl, hd⟩
  exact ⟨rfl, hd⟩
end Go.Proofs.YtmeffcjjfiebdaaDoor.GStampTells
