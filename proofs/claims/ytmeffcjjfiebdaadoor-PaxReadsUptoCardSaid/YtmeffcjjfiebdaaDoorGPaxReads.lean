/- Made by a program of the prover: what the statement says of the plain functions, and the step from that to the row; no condition of its own. -/
import Derived.Test.YtmeffcjjfiebdaaDoorFCreellawPaxReads
import Derived.Test.YtmeffcjjfiebdaaDoorWOpensU
namespace Go.Proofs.YtmeffcjjfiebdaaDoor.GPaxReads
open Go.RowKit Go.Proofs.YtmeffcjjfiebdaaDoor.All Go.Proofs.YtmeffcjjfiebdaaDoorW.PrintWords Go.Proofs.YtmeffcjjfiebdaaDoorW.PrintLast Go.Proofs.YtmeffcjjfiebdaaDoorW.OpensU
set_option linter.unusedVariables false
/-- What is to be proved of the plain functions. -/
def Pure : Prop := ∀ (a0 : ByteArray), (a0.size ≤ 1048576) → ∃ k, creellaw_PaxReads.f k a0 = some true
theorem walk (P : Pure) (a0 : ByteArray) (w : World) (g0 : a0.size ≤ 1048576) (HT0 : Aside0 (Go.Proofs.YtmeffcjjfiebdaaDoorW.Mine.Tab w)) :
    Calls Tryd.prog 8 #[.string a0] w fun e w' => e = .returned (.bool true) ∧ Below w.heap.size w w' := by
  obtain ⟨k, h⟩ := P a0 g0
  refine (creellaw_PaxReads.calls k a0 true w HT0 h).mono ?_
  rintro e w' ⟨rfl, hd⟩
  exact ⟨rfl, hd⟩
end Go.Proofs.YtmeffcjjfiebdaaDoor.GPaxReads
